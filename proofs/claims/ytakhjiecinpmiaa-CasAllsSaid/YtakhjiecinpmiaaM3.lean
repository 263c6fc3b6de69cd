/- The Store: a blob's digest; bytes compared and cloned. Maps with digests for keys. The Store: small functions. The Store: Has. The Store: Whole. The Store: Raw. The Store: what it tells of itself. The Store: Counts, Limit. The Store: Stamp, Evict. The Store: lay. The Store: Put. The Store: Plant, Get. The Store: New. A range over a map that stays as it is: any order; each entry once. No function in sight. The Store: Twin. The order of digests: sum.Less of both sides. -/
import Derived.Test.YtakhjiecinpmiaaM2
import Derived.DeepKeys3
import Derived.Maps.RangeRun
import Derived.Lib.BytesEntry
import Derived.Lib.Bytealg
/-! Store1 -/
namespace Go.Gx
open Go.Proofs
set_option linter.unusedVariables false
set_option linter.unusedSimpArgs false
set_option maxRecDepth 100000
attribute [local irreducible] shaL cutD

theorem Step.aAny {S : List Nat} {L : List (Nat × Obj)} {w0 w : World} {b : Nat} {T : TypeId} {cs : List Value} (hs : Step S L w0 w) (h : (b, blk T cs) ∈ L) : At w b 0 cs := At.of_blk (hs.get h)

theorem digest_spec {bs : Nat} {v : Value} {x : List UInt8} {k : Nat} (w0 : World) (hW : w0.cell? ⟨bs, 0, none⟩ = some (.int .i64 k)) (hv : Sl w0 1 v x.length (u8s x)) (hcap : Room v) (hsz : x.length < 1099511627776) (hk1 : 1 ≤ k) (hk : k ≤ 32) :
    Calls Try.prog 25 #[.pointer (some ⟨bs, 0, none⟩), v] w0 (Ret0 (.agg (u8s (frontL x k)).toArray) w0) := by
  have hs : Step [] [] w0 w0 := Step.refl w0
  have hl2 : (u8s (cutD (shaL x) k)).length = 32 := by rw [u8s, List.length_map, cutD_len (shaL_len x) hk]
  have hWs : ∀ {L : List (Nat × Obj)} {w : World}, Step [] L w0 w → w.cell? ⟨bs, 0, none⟩ = some (.int .i64 k) := fun {L w} h => by
    have hat : At w0 bs 0 [.int .i64 k] := fun j u hj => by
      match j, hj with
      | 0, hj => cases hj; exact hW
    exact (hat.step h (by simp)).cell (j := 0) rfl
  have hc2 : Cells1 (u8s (cutD (shaL x) k)) := Cells1.u8s _
  have hobt := Sl.form hv
  obtain ⟨av, cv, rfl⟩ := hobt
  refine calls (n := 19) Try.func25 rfl rfl rfl ?_
  repeat (first | refine CW.seq ?_ | refine CW.block ?_ | refine CW.skip ?_ | refine CW.label ?_ | refine CW.exit ?_ | refine CW.condT rfl ?_ | refine CW.condF rfl ?_)
  refine CW.reg ?_
  refine WL.alloc ty27 rfl hs (fun b4 w hs => ?_)
  refine WL.nil ?_
  repeat (first | refine CW.seq ?_ | refine CW.block ?_ | refine CW.skip ?_ | refine CW.label ?_ | refine CW.exit ?_ | refine CW.condT rfl ?_ | refine CW.condF rfl ?_)
  refine CW.any (A := fun w => Step [] [] w0 w) (C := fun w => Step [] [] w0 w) 1000000 14 mixedP rfl ?_
  replace hs := hs.drew
  refine AL.val 0 rfl (by kernel_rfl) rfl (fun w hs => run_move) ?_
  refine AL.val 3 rfl (by kernel_rfl) rfl (fun w hs => run_move) ?_
  refine AL.val 4 rfl (by kernel_rfl) rfl (fun w hs => run_nilCheck rfl) ?_
  refine AL.val 5 rfl (by kernel_rfl) rfl (fun w hs => run_field (o' := 0) Try.underlying83 rfl ty3 rfl rfl rfl) ?_
  refine AL.val 6 rfl (by kernel_rfl) rfl (fun w hs => run_load1 ty3 rfl (hWs hs)) ?_
  refine AL.two 1 11 (by kernel_rfl) rfl rfl (hs.clear) (hs.clear) ?_ ?_
  · refine WL.buildSlice (cs := [.slice av x.length cv]) Try.underlying109 ty22 rfl (by decide) rfl (by rfl) rfl hs (fun b9 w hs => ?_)
    refine WL.nil ?_
    refine ⟨rfl, ?_⟩
    refine AL.two 2 11 (by kernel_rfl) rfl rfl (hs.clear) (hs.clear) ?_ ?_
    · refine WL.enter rfl (run_call en46 rfl rfl) (of_spec _ (Step.aAny (T := 22) hs (by simp)) (hv.step0 hs) hcap (by omega)) ?_
      rintro e w ⟨rfl, hq⟩
      refine ⟨_, rfl, ?_⟩
      replace hs := hs.callE hq
      refine WL.nil ?_
      refine ⟨rfl, ?_⟩
      refine AL.two 7 11 (by kernel_rfl) rfl rfl (hs.clear) (hs.clear) ?_ ?_
      · refine WL.enter rfl (run_call en44 rfl rfl) (cut_ok (shaL_len x) hk1 hk _) ?_
        rintro e w ⟨rfl, hq⟩
        refine ⟨_, rfl, ?_⟩
        replace hs := hs.callE hq
        refine WL.nil ?_
        refine ⟨rfl, ?_⟩
        refine AL.val 8 rfl (by kernel_rfl) rfl (fun w hs => run_move) ?_
        refine AL.val 9 rfl (by kernel_rfl) rfl (fun w hs => run_extract rfl rfl) ?_
        refine AL.val 10 rfl (by kernel_rfl) rfl (fun w hs => run_extract rfl rfl) ?_
        refine AL.one 11 (by kernel_rfl) rfl (hs.clear) (hs.clear) ?_
        refine WL.alloc ty27 rfl hs (fun b5 w hs => ?_)
        refine WL.nil ?_
        refine ⟨rfl, ?_⟩
        refine AL.one 12 (by kernel_rfl) rfl (hs.clear) (hs.clear) ?_
        first | refine WL.storeAll ty27 rfl rfl (hl2) (Cells1.u8s _) hs (by first | rfl | assumption) (fun w hs => ?_) | refine WL.storeAll_1 ty27 rfl rfl (hl2) (Cells1.u8s _) hs (by first | rfl | assumption) (fun w hs => ?_) | refine WL.storeAll_2 ty27 rfl rfl (hl2) (Cells1.u8s _) hs (by first | rfl | assumption) (fun w hs => ?_) | refine WL.storeAll_3 ty27 rfl rfl (hl2) (Cells1.u8s _) hs (by first | rfl | assumption) (fun w hs => ?_) | refine WL.storeAll_4 ty27 rfl rfl (hl2) (Cells1.u8s _) hs (by first | rfl | assumption) (fun w hs => ?_) | refine WL.storeAll ty27 rfl rfl (hl2) (Cells1.u8s _) hs (by first | rfl | assumption) (fun w hs => ?_)
        refine WL.nil ?_
        refine ⟨rfl, ?_⟩
        refine AL.val 13 rfl (by kernel_rfl) rfl (fun w hs => run_assign) ?_
        refine AL.end (by kernel_rfl) (hs.clear) (hs.clear) ?_
        repeat (first | refine CW.seq ?_ | refine CW.block ?_ | refine CW.skip ?_ | refine CW.label ?_ | refine CW.exit ?_ | refine CW.condT rfl ?_ | refine CW.condF rfl ?_)
        refine CW.reg ?_
        refine WL.val rfl (run_loadN ty27 rfl hl2 (by first | exact hs.a0 | exact hs.a1)) ?_
        first | refine WL.storeAll ty27 rfl rfl ((hl2)) (Cells1.u8s _) hs (by first | rfl | assumption) (fun w hs => ?_) | refine WL.storeAll_1 ty27 rfl rfl ((hl2)) (Cells1.u8s _) hs (by first | rfl | assumption) (fun w hs => ?_) | refine WL.storeAll_2 ty27 rfl rfl ((hl2)) (Cells1.u8s _) hs (by first | rfl | assumption) (fun w hs => ?_) | refine WL.storeAll_3 ty27 rfl rfl ((hl2)) (Cells1.u8s _) hs (by first | rfl | assumption) (fun w hs => ?_) | refine WL.storeAll_4 ty27 rfl rfl ((hl2)) (Cells1.u8s _) hs (by first | rfl | assumption) (fun w hs => ?_) | refine WL.storeAll ty27 rfl rfl ((hl2)) (Cells1.u8s _) hs (by first | rfl | assumption) (fun w hs => ?_)
        refine WL.nil ?_
        repeat (first | refine CW.seq ?_ | refine CW.block ?_ | refine CW.skip ?_ | refine CW.label ?_ | refine CW.exit ?_ | refine CW.condT rfl ?_ | refine CW.condF rfl ?_)
        refine CW.ret ?_
        first | refine fin_cell1 rfl rfl (run_loadVarN ty27 (by first | rfl | assumption | (simp; done)) hs.a0) ?_ | refine fin_cell1 rfl rfl (run_loadVarN ty27 (by first | rfl | assumption | (simp; done)) hs.a1) ?_ | refine fin_cell1 rfl rfl (run_loadVarN ty27 (by first | rfl | assumption | (simp; done)) hs.a2) ?_ | refine fin_cell1 rfl rfl (run_loadVarN ty27 (by first | rfl | assumption | (simp; done)) hs.a3) ?_ | refine fin_cell1 rfl rfl (run_loadVarN ty27 (by first | rfl | assumption | (simp; done)) hs.a4) ?_ | refine fin_cell1 rfl rfl (run_loadVarN ty27 (by first | rfl | assumption | (simp; done)) hs.a5) ?_
        exact ⟨rfl, hs.clear⟩
      · refine WL.alloc ty27 rfl hs (fun b5 w hs => ?_)
        refine WL.nil ?_
        refine ⟨rfl, ?_⟩
        refine AL.one 7 (by kernel_rfl) rfl (hs.clear) (hs.clear) ?_
        refine WL.enter rfl (run_call en44 rfl rfl) (cut_ok (shaL_len x) hk1 hk _) ?_
        rintro e w ⟨rfl, hq⟩
        refine ⟨_, rfl, ?_⟩
        replace hs := hs.callE hq
        refine WL.nil ?_
        refine ⟨rfl, ?_⟩
        refine AL.val 8 rfl (by kernel_rfl) rfl (fun w hs => run_move) ?_
        refine AL.val 9 rfl (by kernel_rfl) rfl (fun w hs => run_extract rfl rfl) ?_
        refine AL.val 10 rfl (by kernel_rfl) rfl (fun w hs => run_extract rfl rfl) ?_
        refine AL.one 12 (by kernel_rfl) rfl (hs.clear) (hs.clear) ?_
        first | refine WL.storeAll ty27 rfl rfl (hl2) (Cells1.u8s _) hs (by first | rfl | assumption) (fun w hs => ?_) | refine WL.storeAll_1 ty27 rfl rfl (hl2) (Cells1.u8s _) hs (by first | rfl | assumption) (fun w hs => ?_) | refine WL.storeAll_2 ty27 rfl rfl (hl2) (Cells1.u8s _) hs (by first | rfl | assumption) (fun w hs => ?_) | refine WL.storeAll_3 ty27 rfl rfl (hl2) (Cells1.u8s _) hs (by first | rfl | assumption) (fun w hs => ?_) | refine WL.storeAll_4 ty27 rfl rfl (hl2) (Cells1.u8s _) hs (by first | rfl | assumption) (fun w hs => ?_) | refine WL.storeAll ty27 rfl rfl (hl2) (Cells1.u8s _) hs (by first | rfl | assumption) (fun w hs => ?_)
        refine WL.nil ?_
        refine ⟨rfl, ?_⟩
        refine AL.val 13 rfl (by kernel_rfl) rfl (fun w hs => run_assign) ?_
        refine AL.end (by kernel_rfl) (hs.clear) (hs.clear) ?_
        repeat (first | refine CW.seq ?_ | refine CW.block ?_ | refine CW.skip ?_ | refine CW.label ?_ | refine CW.exit ?_ | refine CW.condT rfl ?_ | refine CW.condF rfl ?_)
        refine CW.reg ?_
        refine WL.val rfl (run_loadN ty27 rfl hl2 (by first | exact hs.a0 | exact hs.a1)) ?_
        first | refine WL.storeAll ty27 rfl rfl ((hl2)) (Cells1.u8s _) hs (by first | rfl | assumption) (fun w hs => ?_) | refine WL.storeAll_1 ty27 rfl rfl ((hl2)) (Cells1.u8s _) hs (by first | rfl | assumption) (fun w hs => ?_) | refine WL.storeAll_2 ty27 rfl rfl ((hl2)) (Cells1.u8s _) hs (by first | rfl | assumption) (fun w hs => ?_) | refine WL.storeAll_3 ty27 rfl rfl ((hl2)) (Cells1.u8s _) hs (by first | rfl | assumption) (fun w hs => ?_) | refine WL.storeAll_4 ty27 rfl rfl ((hl2)) (Cells1.u8s _) hs (by first | rfl | assumption) (fun w hs => ?_) | refine WL.storeAll ty27 rfl rfl ((hl2)) (Cells1.u8s _) hs (by first | rfl | assumption) (fun w hs => ?_)
        refine WL.nil ?_
        repeat (first | refine CW.seq ?_ | refine CW.block ?_ | refine CW.skip ?_ | refine CW.label ?_ | refine CW.exit ?_ | refine CW.condT rfl ?_ | refine CW.condF rfl ?_)
        refine CW.ret ?_
        first | refine fin_cell1 rfl rfl (run_loadVarN ty27 (by first | rfl | assumption | (simp; done)) hs.a0) ?_ | refine fin_cell1 rfl rfl (run_loadVarN ty27 (by first | rfl | assumption | (simp; done)) hs.a1) ?_ | refine fin_cell1 rfl rfl (run_loadVarN ty27 (by first | rfl | assumption | (simp; done)) hs.a2) ?_ | refine fin_cell1 rfl rfl (run_loadVarN ty27 (by first | rfl | assumption | (simp; done)) hs.a3) ?_ | refine fin_cell1 rfl rfl (run_loadVarN ty27 (by first | rfl | assumption | (simp; done)) hs.a4) ?_ | refine fin_cell1 rfl rfl (run_loadVarN ty27 (by first | rfl | assumption | (simp; done)) hs.a5) ?_
        exact ⟨rfl, hs.clear⟩
    · refine WL.alloc ty27 rfl hs (fun b5 w hs => ?_)
      refine WL.nil ?_
      refine ⟨rfl, ?_⟩
      refine AL.one 2 (by kernel_rfl) rfl (hs.clear) (hs.clear) ?_
      refine WL.enter rfl (run_call en46 rfl rfl) (of_spec _ (Step.aAny (T := 22) hs (by simp)) (hv.step0 hs) hcap (by omega)) ?_
      rintro e w ⟨rfl, hq⟩
      refine ⟨_, rfl, ?_⟩
      replace hs := hs.callE hq
      refine WL.nil ?_
      refine ⟨rfl, ?_⟩
      refine AL.one 7 (by kernel_rfl) rfl (hs.clear) (hs.clear) ?_
      refine WL.enter rfl (run_call en44 rfl rfl) (cut_ok (shaL_len x) hk1 hk _) ?_
      rintro e w ⟨rfl, hq⟩
      refine ⟨_, rfl, ?_⟩
      replace hs := hs.callE hq
      refine WL.nil ?_
      refine ⟨rfl, ?_⟩
      refine AL.val 8 rfl (by kernel_rfl) rfl (fun w hs => run_move) ?_
      refine AL.val 9 rfl (by kernel_rfl) rfl (fun w hs => run_extract rfl rfl) ?_
      refine AL.val 10 rfl (by kernel_rfl) rfl (fun w hs => run_extract rfl rfl) ?_
      refine AL.one 12 (by kernel_rfl) rfl (hs.clear) (hs.clear) ?_
      first | refine WL.storeAll ty27 rfl rfl (hl2) (Cells1.u8s _) hs (by first | rfl | assumption) (fun w hs => ?_) | refine WL.storeAll_1 ty27 rfl rfl (hl2) (Cells1.u8s _) hs (by first | rfl | assumption) (fun w hs => ?_) | refine WL.storeAll_2 ty27 rfl rfl (hl2) (Cells1.u8s _) hs (by first | rfl | assumption) (fun w hs => ?_) | refine WL.storeAll_3 ty27 rfl rfl (hl2) (Cells1.u8s _) hs (by first | rfl | assumption) (fun w hs => ?_) | refine WL.storeAll_4 ty27 rfl rfl (hl2) (Cells1.u8s _) hs (by first | rfl | assumption) (fun w hs => ?_) | refine WL.storeAll ty27 rfl rfl (hl2) (Cells1.u8s _) hs (by first | rfl | assumption) (fun w hs => ?_)
      refine WL.nil ?_
      refine ⟨rfl, ?_⟩
      refine AL.val 13 rfl (by kernel_rfl) rfl (fun w hs => run_assign) ?_
      refine AL.end (by kernel_rfl) (hs.clear) (hs.clear) ?_
      repeat (first | refine CW.seq ?_ | refine CW.block ?_ | refine CW.skip ?_ | refine CW.label ?_ | refine CW.exit ?_ | refine CW.condT rfl ?_ | refine CW.condF rfl ?_)
      refine CW.reg ?_
      refine WL.val rfl (run_loadN ty27 rfl hl2 (by first | exact hs.a0 | exact hs.a1)) ?_
      first | refine WL.storeAll ty27 rfl rfl ((hl2)) (Cells1.u8s _) hs (by first | rfl | assumption) (fun w hs => ?_) | refine WL.storeAll_1 ty27 rfl rfl ((hl2)) (Cells1.u8s _) hs (by first | rfl | assumption) (fun w hs => ?_) | refine WL.storeAll_2 ty27 rfl rfl ((hl2)) (Cells1.u8s _) hs (by first | rfl | assumption) (fun w hs => ?_) | refine WL.storeAll_3 ty27 rfl rfl ((hl2)) (Cells1.u8s _) hs (by first | rfl | assumption) (fun w hs => ?_) | refine WL.storeAll_4 ty27 rfl rfl ((hl2)) (Cells1.u8s _) hs (by first | rfl | assumption) (fun w hs => ?_) | refine WL.storeAll ty27 rfl rfl ((hl2)) (Cells1.u8s _) hs (by first | rfl | assumption) (fun w hs => ?_)
      refine WL.nil ?_
      repeat (first | refine CW.seq ?_ | refine CW.block ?_ | refine CW.skip ?_ | refine CW.label ?_ | refine CW.exit ?_ | refine CW.condT rfl ?_ | refine CW.condF rfl ?_)
      refine CW.ret ?_
      first | refine fin_cell1 rfl rfl (run_loadVarN ty27 (by first | rfl | assumption | (simp; done)) hs.a0) ?_ | refine fin_cell1 rfl rfl (run_loadVarN ty27 (by first | rfl | assumption | (simp; done)) hs.a1) ?_ | refine fin_cell1 rfl rfl (run_loadVarN ty27 (by first | rfl | assumption | (simp; done)) hs.a2) ?_ | refine fin_cell1 rfl rfl (run_loadVarN ty27 (by first | rfl | assumption | (simp; done)) hs.a3) ?_ | refine fin_cell1 rfl rfl (run_loadVarN ty27 (by first | rfl | assumption | (simp; done)) hs.a4) ?_ | refine fin_cell1 rfl rfl (run_loadVarN ty27 (by first | rfl | assumption | (simp; done)) hs.a5) ?_
      exact ⟨rfl, hs.clear⟩
  · refine WL.alloc ty27 rfl hs (fun b5 w hs => ?_)
    refine WL.nil ?_
    refine ⟨rfl, ?_⟩
    refine AL.one 1 (by kernel_rfl) rfl (hs.clear) (hs.clear) ?_
    refine WL.buildSlice (cs := [.slice av x.length cv]) Try.underlying109 ty22 rfl (by decide) rfl (by rfl) rfl hs (fun b9 w hs => ?_)
    refine WL.nil ?_
    refine ⟨rfl, ?_⟩
    refine AL.one 2 (by kernel_rfl) rfl (hs.clear) (hs.clear) ?_
    refine WL.enter rfl (run_call en46 rfl rfl) (of_spec _ (Step.aAny (T := 22) hs (by simp)) (hv.step0 hs) hcap (by omega)) ?_
    rintro e w ⟨rfl, hq⟩
    refine ⟨_, rfl, ?_⟩
    replace hs := hs.callE hq
    refine WL.nil ?_
    refine ⟨rfl, ?_⟩
    refine AL.one 7 (by kernel_rfl) rfl (hs.clear) (hs.clear) ?_
    refine WL.enter rfl (run_call en44 rfl rfl) (cut_ok (shaL_len x) hk1 hk _) ?_
    rintro e w ⟨rfl, hq⟩
    refine ⟨_, rfl, ?_⟩
    replace hs := hs.callE hq
    refine WL.nil ?_
    refine ⟨rfl, ?_⟩
    refine AL.val 8 rfl (by kernel_rfl) rfl (fun w hs => run_move) ?_
    refine AL.val 9 rfl (by kernel_rfl) rfl (fun w hs => run_extract rfl rfl) ?_
    refine AL.val 10 rfl (by kernel_rfl) rfl (fun w hs => run_extract rfl rfl) ?_
    refine AL.one 12 (by kernel_rfl) rfl (hs.clear) (hs.clear) ?_
    first | refine WL.storeAll ty27 rfl rfl (hl2) (Cells1.u8s _) hs (by first | rfl | assumption) (fun w hs => ?_) | refine WL.storeAll_1 ty27 rfl rfl (hl2) (Cells1.u8s _) hs (by first | rfl | assumption) (fun w hs => ?_) | refine WL.storeAll_2 ty27 rfl rfl (hl2) (Cells1.u8s _) hs (by first | rfl | assumption) (fun w hs => ?_) | refine WL.storeAll_3 ty27 rfl rfl (hl2) (Cells1.u8s _) hs (by first | rfl | assumption) (fun w hs => ?_) | refine WL.storeAll_4 ty27 rfl rfl (hl2) (Cells1.u8s _) hs (by first | rfl | assumption) (fun w hs => ?_) | refine WL.storeAll ty27 rfl rfl (hl2) (Cells1.u8s _) hs (by first | rfl | assumption) (fun w hs => ?_)
    refine WL.nil ?_
    refine ⟨rfl, ?_⟩
    refine AL.val 13 rfl (by kernel_rfl) rfl (fun w hs => run_assign) ?_
    refine AL.end (by kernel_rfl) (hs.clear) (hs.clear) ?_
    repeat (first | refine CW.seq ?_ | refine CW.block ?_ | refine CW.skip ?_ | refine CW.label ?_ | refine CW.exit ?_ | refine CW.condT rfl ?_ | refine CW.condF rfl ?_)
    refine CW.reg ?_
    refine WL.val rfl (run_loadN ty27 rfl hl2 (by first | exact hs.a0 | exact hs.a1)) ?_
    first | refine WL.storeAll ty27 rfl rfl ((hl2)) (Cells1.u8s _) hs (by first | rfl | assumption) (fun w hs => ?_) | refine WL.storeAll_1 ty27 rfl rfl ((hl2)) (Cells1.u8s _) hs (by first | rfl | assumption) (fun w hs => ?_) | refine WL.storeAll_2 ty27 rfl rfl ((hl2)) (Cells1.u8s _) hs (by first | rfl | assumption) (fun w hs => ?_) | refine WL.storeAll_3 ty27 rfl rfl ((hl2)) (Cells1.u8s _) hs (by first | rfl | assumption) (fun w hs => ?_) | refine WL.storeAll_4 ty27 rfl rfl ((hl2)) (Cells1.u8s _) hs (by first | rfl | assumption) (fun w hs => ?_) | refine WL.storeAll ty27 rfl rfl ((hl2)) (Cells1.u8s _) hs (by first | rfl | assumption) (fun w hs => ?_)
    refine WL.nil ?_
    repeat (first | refine CW.seq ?_ | refine CW.block ?_ | refine CW.skip ?_ | refine CW.label ?_ | refine CW.exit ?_ | refine CW.condT rfl ?_ | refine CW.condF rfl ?_)
    refine CW.ret ?_
    first | refine fin_cell1 rfl rfl (run_loadVarN ty27 (by first | rfl | assumption | (simp; done)) hs.a0) ?_ | refine fin_cell1 rfl rfl (run_loadVarN ty27 (by first | rfl | assumption | (simp; done)) hs.a1) ?_ | refine fin_cell1 rfl rfl (run_loadVarN ty27 (by first | rfl | assumption | (simp; done)) hs.a2) ?_ | refine fin_cell1 rfl rfl (run_loadVarN ty27 (by first | rfl | assumption | (simp; done)) hs.a3) ?_ | refine fin_cell1 rfl rfl (run_loadVarN ty27 (by first | rfl | assumption | (simp; done)) hs.a4) ?_ | refine fin_cell1 rfl rfl (run_loadVarN ty27 (by first | rfl | assumption | (simp; done)) hs.a5) ?_
    exact ⟨rfl, hs.clear⟩
end Go.Gx
/-! MapD -/
namespace Go.Gx
open Go.Proofs
set_option linter.unusedVariables false
set_option linter.unusedSimpArgs false
set_option maxRecDepth 100000

def ents (M : List (List UInt8 × Value × Nat)) : List MapEntry := M.map fun p => { key := .agg (u8s p.1).toArray, val := p.2.1, born := p.2.2 }
def Keys32 (M : List (List UInt8 × Value × Nat)) : Prop := ∀ p ∈ M, p.1.length = 32
def findD (d : List UInt8) : List (List UInt8 × Value × Nat) → Nat → Option (Nat × Value)
  | [], _ => none
  | p :: M, i => if d = p.1 then some (i, p.2.1) else findD d M (i + 1)
theorem run_findAsking {d : List UInt8} (hd : d.length = 32) (w : World) : ∀ (M : List (List UInt8 × Value × Nat)) (i : Nat), Keys32 M → (Instr.findAsking 27 (.agg (u8s d).toArray) (ents M) i).run Try.prog w = .ok (findD d M i) w
  | [], i, _ => rfl
  | p :: M, i, h => by
    have hp : p.1.length = 32 := h p (by simp)
    have he : (Op.equal 27 (.agg (u8s d).toArray) (.agg (u8s p.1).toArray)).run Try.prog w = .ok (decide (d = p.1)) w :=
      run_equal_agg u8l_iff dig_key (dig_formed hd) (dig_formed hp) (dig_lits hd) (dig_lits hp)
    have ih := run_findAsking hd w M (i + 1) (fun q hq => h q (by simp [hq]))
    rw [ents, List.map_cons, Instr.findAsking]
    simp only [Sem.run_bind, he, Result.andThen_ok, findD]
    by_cases hx : d = p.1
    · simp [hx]
    · simp only [hx, decide_false, Bool.false_eq_true, if_false]
      exact ih
theorem run_findKey {d : List UInt8} (hd : d.length = 32) (w : World) {M : List (List UInt8 × Value × Nat)} (h : Keys32 M) : (Instr.findKey 27 (.agg (u8s d).toArray) (ents M)).run Try.prog w = .ok (findD d M 0) w := by
  rw [Instr.findKey]
  simp only [Sem.run_bind, run_underlying Try.underlying27, Result.andThen_ok]
  cases M with
  | nil => rfl
  | cons p M =>
    have := run_findAsking hd w (p :: M) 0 h
    simpa [ents, Instr.findNow, Instr.sameNow] using this
theorem run_keyOk {d : List UInt8} (hd : d.length = 32) (em : Bool) (w : World) : (Instr.checkKey em 10000 27 (.agg (u8s d).toArray)).run Try.prog w = .ok () w :=
  run_checkKey_deep em 9995 5 27 dig_key w 4 _ _ (dig_formed hd) (by simpa [Value.cells] using dig_lits hd)
section
variable {f : Slots} {w : World} {dd : Option Tmp} {ty : TypeId} {pos : String} {af : Array Edge} {x y : Operand} {T E : TypeId} {M : List (List UInt8 × Value × Nat)} {d : List UInt8} {r clock : Nat} {z : Value}
theorem run_lookupD (ht : Try.prog.underlying T = some (.map 27 E)) (hz : (zeroValue E).run Try.prog w = .ok z w) (hM : Keys32 M) (hd : d.length = 32) (hx : ev f x = .map (some r)) (hy : ev f y = .agg (u8s d).toArray) (hb : w.heap[r]? = some (.map (ents M).toArray clock)) :
    (execOp (ev f) ⟨dd, .lookup T x y true, ty, pos, af, none⟩).run Try.prog w = .ok (.value (.tuple #[((findD d M 0).map (·.2)).getD z, .bool (findD d M 0).isSome])) w := by
  have h1 := run_findKey hd w hM
  have h2 := run_keyOk hd (ents M).toArray.isEmpty w
  have hg : (getObj r).run Try.prog w = .ok (.map (ents M).toArray clock) w := by simp [getObj, Sem.run, hb]
  simp only [execOp, hx, hy, Instr.lookup, Sem.run_bind, run_underlying ht, Result.andThen_ok, hg, Sem.run_pure, h2, h1]
  cases hf : findD d M 0 with
  | none => simp [hz]
  | some p => simp
end

theorem sameBits_u8 (l : List UInt8) : Instr.sameBits 10000 (.agg (u8s l).toArray) (.agg (u8s l).toArray) = true := by
  have h : ∀ (l : List UInt8), (((u8s l).zip (u8s l)).all fun (x, y) => Instr.sameBits 9999 x y) = true := fun l => by
    induction l with
    | nil => rfl
    | cons c l ih =>
      simp only [u8s, List.map_cons, List.zip_cons_cons, List.all_cons, Bool.and_eq_true]
      exact ⟨by simp [Instr.sameBits], ih⟩
  rw [Instr.sameBits]
  simpa using h l
/-- The value under a key changed where it stands. -/
def updD (d : List UInt8) (v : Value) : List (List UInt8 × Value × Nat) → List (List UInt8 × Value × Nat)
  | [] => []
  | p :: M => if d = p.1 then (p.1, v, p.2.2) :: M else p :: updD d v M
theorem findD_shift {d : List UInt8} : ∀ {M : List (List UInt8 × Value × Nat)} {i : Nat}, findD d M (i + 1) = (findD d M i).map fun p => (p.1 + 1, p.2)
  | [], _ => rfl
  | p :: M, i => by
    unfold findD
    by_cases h : d = p.1
    · simp [h]
    · rw [if_neg h, if_neg h]; exact findD_shift
theorem ents_modify {d : List UInt8} {v u : Value} : ∀ {M : List (List UInt8 × Value × Nat)} {j : Nat}, findD d M 0 = some (j, u) → (ents M).modify j (fun e => { e with key := .agg (u8s d).toArray, val := v }) = ents (updD d v M) ∧ ((ents M)[j]?).map (·.key) = some (.agg (u8s d).toArray)
  | [], j, h => by simp [findD] at h
  | p :: M, j, h => by
    unfold findD at h
    by_cases hp : d = p.1
    · rw [if_pos hp] at h
      injection h with h
      injection h with h1 h2
      subst h1
      simp [ents, updD, hp]
    · rw [if_neg hp, findD_shift] at h
      cases hf : findD d M 0 with
      | none => rw [hf] at h; cases h
      | some q =>
        obtain ⟨j', u'⟩ := q
        rw [hf] at h
        simp only [Option.map_some, Option.some.injEq, Prod.mk.injEq] at h
        obtain ⟨rfl, rfl⟩ := h
        have ih := ents_modify (v := v) hf
        simp only [ents, updD, hp, if_false, List.map_cons, List.modify_succ_cons, List.getElem?_cons_succ]
        exact ⟨congrArg (_ :: ·) ih.1, ih.2⟩

def putM (d : List UInt8) (v : Value) (clock : Nat) (M : List (List UInt8 × Value × Nat)) : List (List UInt8 × Value × Nat) := if (findD d M 0).isSome then updD d v M else M ++ [(d, v, clock)]
def putC (d : List UInt8) (clock : Nat) (M : List (List UInt8 × Value × Nat)) : Nat := if (findD d M 0).isSome then clock else clock + 1
def mapObj (M : List (List UInt8 × Value × Nat)) (clock : Nat) : Obj := .map (ents M).toArray clock
theorem run_putD {T E : TypeId} {w : World} {M : List (List UInt8 × Value × Nat)} {d : List UInt8} {r clock : Nat} {v : Value} (ht : Try.prog.underlying T = some (.map 27 E)) (hM : Keys32 M) (hd : d.length = 32) (hb : w.heap[r]? = some (mapObj M clock)) :
    (Instr.mapUpdate T (.map (some r)) (.agg (u8s d).toArray) v).run Try.prog w = .ok () { w with heap := w.heap.setIfInBounds r (mapObj (putM d v clock M) (putC d clock M)) } := by
  have h1 := run_findKey hd w hM
  have h2 := run_keyOk hd false w
  have hg := MapKept.run_getObj_map (P := Try.prog) hb
  simp only [Instr.mapUpdate, Sem.run_bind, run_underlying ht, Result.andThen_ok, hg, h2, h1]
  cases hf : findD d M 0 with
  | none =>
    simp only [MapKept.run_setObj_map _ hb]
    simp [putM, putC, hf, mapObj, ents]
  | some p =>
    obtain ⟨j, u⟩ := p
    have hobt := ents_modify (v := v) hf
    obtain ⟨hm, hk⟩ := hobt
    have hk' : ((ents M).toArray[j]?.map (·.key)).getD (.agg (u8s d).toArray) = .agg (u8s d).toArray := by
      rw [List.getElem?_toArray, hk]; rfl
    have hs : (Instr.keyThatStays (((ents M).toArray[j]?.map (·.key)).getD (.agg (u8s d).toArray)) (.agg (u8s d).toArray)).run Try.prog w = .ok (.agg (u8s d).toArray) w := by
      rw [hk', Instr.keyThatStays, if_pos (sameBits_u8 d)]; rfl
    simp only [Sem.run_bind, hs, Result.andThen_ok, MapKept.run_setObj_map _ hb]
    have e : (ents M).toArray.modify j (fun e => { e with key := .agg (u8s d).toArray, val := v }) = (ents (updD d v M)).toArray := by
      rw [← hm]
      apply Array.ext'
      simp
    simp [putM, putC, hf, mapObj, e]

theorem Step.setO {S : List Nat} {L : List (Nat × Obj)} {w w' : World} {b : Nat} {o : Obj} (h : Step S ((b, o) :: L) w w') (o' : Obj) : Step S ((b, o') :: L) w { w' with heap := w'.heap.setIfInBounds b o' } := by
  have hb := h.has (b, o) (by simp)
  have hlt := lt_of_get hb
  have hc : Step ([(b, o)].map (·.1)) [(b, o')] w' { w' with heap := w'.heap.setIfInBounds b o' } := by
    refine ⟨⟨rfl, rfl, rfl, by simp, fun k hk hn => ?_, Nat.le_refl _⟩, by simp, ?_, by simp⟩
    · have hne : b ≠ k := fun e => hn (by simp [e])
      simp [Array.getElem?_setIfInBounds, hne]
    · intro p hp
      simp at hp
      subst hp
      simp [hlt]
  exact Step.call (L1 := [(b, o)]) h hc
section
variable {ops : Array Oper} {n : Nat} {rest : List Oper} {f : Slots} {ds : List Deferred} {w w0 : World} {S : List Nat} {L : List (Nat × Obj)} {Q : Post} {ty : TypeId} {pos : String} {af : Array Edge} {x y k : Operand} {T E : TypeId}
theorem WL.mapPut {M : List (List UInt8 × Value × Nat)} {d : List UInt8} {r clock : Nat} {v : Value} (ht : Try.prog.underlying T = some (.map 27 E)) (hx : ev f x = .map (some r)) (hk : ev f k = .agg (u8s d).toArray) (hy : ev f y = v)
    (hM : Keys32 M) (hd : d.length = 32) (hs : Step S ((r, mapObj M clock) :: L) w0 w) (h : ∀ w', Step S ((r, mapObj (putM d v clock M) (putC d clock M)) :: L) w0 w' → WL Try.prog ops Q n rest f ds w') :
    WL Try.prog ops Q n (⟨none, .mapUpdate T x k y, ty, pos, af, none⟩ :: rest) f ds w := by
  refine WL.skip ?_ (h _ (hs.setO _))
  have h1 := run_putD (v := v) ht hM hd hs.hd
  simp only [execOp, hx, hk, hy, Sem.run_bind, h1, Result.andThen_ok]
  rfl
end

def delM (d : List UInt8) : List (List UInt8 × Value × Nat) → List (List UInt8 × Value × Nat)
  | [] => []
  | p :: M => if d = p.1 then M else p :: delM d M
theorem delM_none {d : List UInt8} : ∀ {M : List (List UInt8 × Value × Nat)} {i : Nat}, findD d M i = none → delM d M = M
  | [], _, _ => rfl
  | p :: M, i, h => by
    unfold findD at h
    by_cases hp : d = p.1
    · rw [if_pos hp] at h; cases h
    · rw [if_neg hp] at h
      rw [delM, if_neg hp, delM_none h]
theorem ents_erase {d : List UInt8} {u : Value} : ∀ {M : List (List UInt8 × Value × Nat)} {j : Nat}, findD d M 0 = some (j, u) → (ents M).eraseIdx j = ents (delM d M)
  | [], j, h => by simp [findD] at h
  | p :: M, j, h => by
    unfold findD at h
    by_cases hp : d = p.1
    · rw [if_pos hp] at h
      injection h with h
      injection h with h1 h2
      subst h1
      simp [ents, delM, hp]
    · rw [if_neg hp, findD_shift] at h
      cases hf : findD d M 0 with
      | none => rw [hf] at h; cases h
      | some q =>
        obtain ⟨j', u'⟩ := q
        rw [hf] at h
        simp only [Option.map_some, Option.some.injEq, Prod.mk.injEq] at h
        obtain ⟨rfl, rfl⟩ := h
        have ih := ents_erase hf
        simp only [ents, delM, hp, if_false, List.map_cons, List.eraseIdx_cons_succ]
        exact congrArg (_ :: ·) ih
theorem run_delD {T E ty : TypeId} {w : World} {M : List (List UInt8 × Value × Nat)} {d : List UInt8} {r clock : Nat} {K : TypeId} (ht : Try.prog.underlying T = some (.map 27 E)) (hM : Keys32 M) (hd : d.length = 32) (hb : w.heap[r]? = some (mapObj M clock)) :
    (Builtin.delete_ #[T, K] ty #[.map (some r), .agg (u8s d).toArray]).run Try.prog w = .ok (.tuple #[]) { w with heap := w.heap.setIfInBounds r (mapObj (delM d M) clock) } := by
  have h1 := run_findKey hd w hM
  have h2 := run_keyOk hd (ents M).toArray.isEmpty w
  have hg := MapKept.run_getObj_map (P := Try.prog) hb
  simp only [Builtin.delete_, List.getElem?_toArray, List.getElem?_cons_zero, List.getElem?_cons_succ, Sem.run_bind, run_underlying ht, Result.andThen_ok, hg, h2, h1]
  cases hf : findD d M 0 with
  | none =>
    rw [delM_none hf]
    simp only [Sem.run_bind, MapKept.run_setObj_map _ hb, Result.andThen_ok]
    rfl
  | some p =>
    obtain ⟨j, u⟩ := p
    have hm := ents_erase hf
    have e : (ents M).toArray.eraseIdxIfInBounds j = (ents (delM d M)).toArray := by
      rw [← hm]
      apply Array.ext'
      simp
    simp only [Sem.run_bind, e, MapKept.run_setObj_map _ hb, Result.andThen_ok]
    rfl
section
variable {ops : Array Oper} {n : Nat} {rest : List Oper} {f : Slots} {ds : List Deferred} {w w0 : World} {S : List Nat} {L : List (Nat × Obj)} {Q : Post} {ty : TypeId} {pos : String} {af : Array Edge} {x y k : Operand} {T E K : TypeId} {dd : Option Tmp}
theorem WL.mapDel {M : List (List UInt8 × Value × Nat)} {d : List UInt8} {r clock : Nat} (ht : Try.prog.underlying T = some (.map 27 E)) (hx : ev f x = .map (some r)) (hk : ev f k = .agg (u8s d).toArray)
    (hM : Keys32 M) (hd : d.length = 32) (hs : Step S ((r, mapObj M clock) :: L) w0 w) (h : ∀ w', Step S ((r, mapObj (delM d M) clock) :: L) w0 w' → WL Try.prog ops Q n rest f ds w') :
    WL Try.prog ops Q n (⟨none, .call { callee := .builtin .delete, args := #[x, k], argTypes := #[T, K] }, ty, pos, af, none⟩ :: rest) f ds w := by
  refine WL.drop (v := .tuple #[]) ?_ (h _ (hs.setO _))
  have h1 := run_delD (K := K) (ty := ty) ht hM hd hs.hd
  simp only [execOp, resolve, invoke, builtin, Sem.run_bind, Sem.run_pure, Result.andThen_ok, List.map_toArray, List.map_cons, List.map_nil, hx, hk, h1]
theorem run_lenD {M : List (List UInt8 × Value × Nat)} {r clock : Nat} (ht : Try.prog.underlying T = some (.map 27 E)) (hx : ev f x = .map (some r)) (hb : w.heap[r]? = some (mapObj M clock)) :
    (execOp (ev f) ⟨dd, .call { callee := .builtin .len, args := #[x], argTypes := #[T] }, ty, pos, af, none⟩).run Try.prog w = .ok (.value (.int .i64 (M.length : Nat))) w := by
  have hg := MapKept.run_getObj_map (P := Try.prog) hb
  simp [execOp, resolve, invoke, builtin, hx, Builtin.len_, run_underlying ht, hg, goInt, ents]
theorem WL.makeMapD {d : Nat} (hd : Nat.blt d n = true) (hs : Step S L w0 w) (h : ∀ b w', Step S ((b, mapObj [] 0) :: L) w0 w' → WL Try.prog ops Q n rest (upd f d (.map (some b))) ds w') :
    WL Try.prog ops Q n (⟨some d, .makeMap T none, ty, pos, af, none⟩ :: rest) f ds w := by
  refine WL.val hd (v := .map (some w.heap.size)) (w' := w.alloc (mapObj [] 0)) ?_ (h _ _ (hs.alloc _))
  simp [execOp, Instr.makeMap, newObj]
  rfl
end
end Go.Gx
/-! Store2 -/
namespace Go.Gx
open Go.Proofs
set_option linter.unusedVariables false
set_option linter.unusedSimpArgs false
set_option maxRecDepth 100000
theorem run_nilSl {P : Program} {f : Slots} {w : World} {d : Option Tmp} {ty : TypeId} {pos : String} {af : Array Edge} {x : Operand} {T T' E : TypeId} {a : Option Addr} {n c : Nat} (ht : P.underlying T = some (.slice E)) (hx : ev f x = .slice a n c) :
    (execOp (ev f) ⟨d, .binOp .eql T x (.const (.slice none 0 0)) T', ty, pos, af, none⟩).run P w = .ok (.value (.bool a.isNone)) w := by
  have h := run_equal_slice_nil (P := P) w T E a n c ht
  have e : ev f (.const (.slice none 0 0)) = .slice none 0 0 := rfl
  simp [execOp, hx, e, eqGuard_at_slice, binOp, h]
theorem clone_spec {v : Value} {s : List UInt8} (w0 : World) (hv : Sl w0 1 v s.length (u8s s)) (hs1 : s.length ≤ 140737488355328) :
    Calls Try.prog 42 #[v] w0 fun e w' => ∃ v' Lv, e = .returned v' ∧ OwnSl 5 1 v' s.length (u8s s) Lv ∧ Step [] Lv w0 w' := by
  have hs : Step [] [] w0 w0 := Step.refl w0
  have hcase : (s = [] ∧ ∃ c, v = .slice none s.length c) ∨ ∃ A c, v = .slice (some A) s.length c := by
    have hobt := id hv
    obtain ⟨_, ⟨a, c, rfl, h0⟩ | ⟨b, off, c, rfl, hat⟩⟩ := hobt
    · cases a with
      | none => exact .inl ⟨List.eq_nil_of_length_eq_zero h0, _, rfl⟩
      | some A => exact .inr ⟨_, _, rfl⟩
    · exact .inr ⟨_, _, rfl⟩
  obtain ⟨rfl, c, rfl⟩ | ⟨A, c, rfl⟩ := hcase
  · skip
    refine calls (n := 8) Try.func42 rfl rfl rfl ?_
    repeat (first | refine CW.seq ?_ | refine CW.block ?_ | refine CW.skip ?_ | refine CW.label ?_ | refine CW.exit ?_ | refine CW.condT rfl ?_ | refine CW.condF rfl ?_)
    refine CW.reg ?_
    refine WL.val rfl (run_assign) ?_
    refine WL.nil ?_
    repeat (first | refine CW.seq ?_ | refine CW.block ?_ | refine CW.skip ?_ | refine CW.label ?_ | refine CW.exit ?_ | refine CW.condT rfl ?_ | refine CW.condF rfl ?_)
    refine CW.reg ?_
    refine WL.val rfl (run_move) ?_
    refine WL.val rfl (run_nilSl Try.underlying22 rfl) ?_
    refine WL.nil ?_
    repeat (first | refine CW.seq ?_ | refine CW.block ?_ | refine CW.skip ?_ | refine CW.label ?_ | refine CW.exit ?_ | refine CW.condT rfl ?_ | refine CW.condF rfl ?_)
    refine CW.reg ?_
    refine WL.val rfl (run_assign) ?_
    refine WL.nil ?_
    repeat (first | refine CW.seq ?_ | refine CW.block ?_ | refine CW.skip ?_ | refine CW.label ?_ | refine CW.exit ?_ | refine CW.condT rfl ?_ | refine CW.condF rfl ?_)
    refine CW.ret ?_
    refine fin_ret1 rfl ?_
    exact ⟨_, [], rfl, .nil _ _, hs⟩
  · refine calls (n := 8) Try.func42 rfl rfl rfl ?_
    repeat (first | refine CW.seq ?_ | refine CW.block ?_ | refine CW.skip ?_ | refine CW.label ?_ | refine CW.exit ?_ | refine CW.condT rfl ?_ | refine CW.condF rfl ?_)
    refine CW.reg ?_
    refine WL.val rfl (run_assign) ?_
    refine WL.nil ?_
    repeat (first | refine CW.seq ?_ | refine CW.block ?_ | refine CW.skip ?_ | refine CW.label ?_ | refine CW.exit ?_ | refine CW.condT rfl ?_ | refine CW.condF rfl ?_)
    refine CW.reg ?_
    refine WL.val rfl (run_move) ?_
    refine WL.val rfl (run_nilSl Try.underlying22 rfl) ?_
    refine WL.nil ?_
    repeat (first | refine CW.seq ?_ | refine CW.block ?_ | refine CW.skip ?_ | refine CW.label ?_ | refine CW.exit ?_ | refine CW.condT rfl ?_ | refine CW.condF rfl ?_)
    refine CW.reg ?_
    refine WL.buildSlice Try.underlying22 ty5 rfl (by decide) rfl (by rfl) rfl hs (fun b5 w hs => ?_)
    refine WL.val rfl (run_move) ?_
    refine WL.append Try.underlying22 Try.underlying22 ty5 rfl (by decide) rfl rfl (.mk (xs := []) rfl) (hs) (hv.step0 hs) (Cells1.u8s s) (by first | omega | (simp only [List.length_append, List.length_cons, List.length_nil]; omega)) rfl (fun v7 Lv7 w hv7 hs => ?_)
    refine WL.val rfl (run_assign) ?_
    refine WL.nil ?_
    repeat (first | refine CW.seq ?_ | refine CW.block ?_ | refine CW.skip ?_ | refine CW.label ?_ | refine CW.exit ?_ | refine CW.condT rfl ?_ | refine CW.condF rfl ?_)
    refine CW.ret ?_
    refine fin_ret1 rfl ?_
    refine ⟨_, _, rfl, ?_, hs.dropR⟩
    have h2 := hv7
    rw [Nat.zero_add, List.nil_append] at h2
    exact h2

theorem equal_spec {u v : Value} {a b : List UInt8} (w0 : World) (hu : Sl w0 1 u a.length (u8s a)) (hv : Sl w0 1 v b.length (u8s b)) : Calls Try.prog 38 #[u, v] w0 (Ret0 (.bool (decide (a = b))) w0) := by
  have hs : Step [] [] w0 w0 := Step.refl w0
  refine calls (n := 10) Try.func38 rfl rfl rfl ?_
  repeat (first | refine CW.seq ?_ | refine CW.block ?_ | refine CW.skip ?_ | refine CW.label ?_ | refine CW.exit ?_ | refine CW.condT rfl ?_ | refine CW.condF rfl ?_)
  refine CW.reg ?_
  refine WL.val rfl (run_assign) ?_
  refine WL.nil ?_
  repeat (first | refine CW.seq ?_ | refine CW.block ?_ | refine CW.skip ?_ | refine CW.label ?_ | refine CW.exit ?_ | refine CW.condT rfl ?_ | refine CW.condF rfl ?_)
  refine CW.reg ?_
  refine WL.val rfl (run_move) ?_
  refine WL.val rfl (run_toString Try.underlying22 Try.underlying9 Try.underlying5 rfl (hu.step0 hs)) ?_
  refine WL.val rfl (run_move) ?_
  refine WL.val rfl (run_toString Try.underlying22 Try.underlying9 Try.underlying5 rfl (hv.step0 hs)) ?_
  refine WL.val rfl (run_strEq rfl rfl) ?_
  refine WL.val rfl (run_assign) ?_
  refine WL.nil ?_
  repeat (first | refine CW.seq ?_ | refine CW.block ?_ | refine CW.skip ?_ | refine CW.label ?_ | refine CW.exit ?_ | refine CW.condT rfl ?_ | refine CW.condF rfl ?_)
  refine CW.ret ?_
  refine fin_ret1 rfl ?_
  exact ⟨rfl, hs⟩
theorem cost_spec {v : Value} {x : List UInt8} (w0 : World) (hv : Sl w0 1 v x.length (u8s x)) (hsz : x.length < 1099511627776) : Calls Try.prog 47 #[v] w0 (Ret0 (.int .i64 ((x.length + 32 : Nat) : Int)) w0) := by
  have hs : Step [] [] w0 w0 := Step.refl w0
  have hobt := Sl.form hv
  obtain ⟨av, cv, rfl⟩ := hobt
  refine calls (n := 6) Try.func47 rfl rfl rfl ?_
  repeat (first | refine CW.seq ?_ | refine CW.block ?_ | refine CW.skip ?_ | refine CW.label ?_ | refine CW.exit ?_ | refine CW.condT rfl ?_ | refine CW.condF rfl ?_)
  refine CW.reg ?_
  refine WL.val rfl (run_assign) ?_
  refine WL.nil ?_
  repeat (first | refine CW.seq ?_ | refine CW.block ?_ | refine CW.skip ?_ | refine CW.label ?_ | refine CW.exit ?_ | refine CW.condT rfl ?_ | refine CW.condF rfl ?_)
  refine CW.reg ?_
  refine WL.val rfl (run_move) ?_
  refine WL.val rfl (run_lenSl Try.underlying22 rfl) ?_
  refine WL.val rfl (run_add (c := ((x.length + 32 : Nat) : Int)) rfl rfl (by omega) (by omega)) ?_
  refine WL.val rfl (run_assign) ?_
  refine WL.nil ?_
  repeat (first | refine CW.seq ?_ | refine CW.block ?_ | refine CW.skip ?_ | refine CW.label ?_ | refine CW.exit ?_ | refine CW.condT rfl ?_ | refine CW.condF rfl ?_)
  refine CW.ret ?_
  refine fin_ret1 rfl ?_
  exact ⟨rfl, hs⟩
theorem zBlob (w : World) : (zeroValue 85).run Try.prog w = .ok (.agg #[.slice none 0 0, .int .i64 0]) w := by kernel_rfl
theorem capable_spec (c : Int) (w : World) : Calls Try.prog 45 #[.int .i64 c] w (Ret0 (.bool (decide (0 ≤ c ∧ c ≤ 67108864))) w) := by
  have hs : Step [] [] w w := Step.refl w
  by_cases h0 : 0 ≤ c
  · by_cases h1 : c ≤ 67108864
    · rw [decide_eq_true ⟨h0, h1⟩]
      refine calls (n := 9) Try.func45 rfl rfl rfl ?_
      repeat (first | refine CW.seq ?_ | refine CW.block ?_ | refine CW.skip ?_ | refine CW.label ?_ | refine CW.exit ?_ | refine CW.condT rfl ?_ | refine CW.condF rfl ?_)
      refine CW.reg ?_
      refine WL.val rfl (run_assign) ?_
      refine WL.nil ?_
      repeat (first | refine CW.seq ?_ | refine CW.block ?_ | refine CW.skip ?_ | refine CW.label ?_ | refine CW.exit ?_ | refine CW.condT rfl ?_ | refine CW.condF rfl ?_)
      refine CW.reg ?_
      refine WL.val rfl (run_move) ?_
      refine WL.val rfl (run_bT (run_geq rfl rfl) (by exact h0)) ?_
      refine WL.val rfl (run_move) ?_
      first | (refine WL.yes rfl rfl rfl ?_; refine WL.val rfl (run_move) ?_) | refine WL.no rfl rfl rfl (.inl rfl) ?_ | refine WL.no rfl rfl rfl (.inr rfl) ?_
      refine WL.yes rfl rfl rfl ?_
      refine WL.val rfl (run_bT (run_leq rfl rfl) (by exact h1)) ?_
      first | refine WL.val rfl (run_pickT rfl) ?_ | refine WL.val rfl (run_pickF rfl) ?_
      refine WL.val rfl (run_assign) ?_
      refine WL.nil ?_
      repeat (first | refine CW.seq ?_ | refine CW.block ?_ | refine CW.skip ?_ | refine CW.label ?_ | refine CW.exit ?_ | refine CW.condT rfl ?_ | refine CW.condF rfl ?_)
      refine CW.ret ?_
      refine fin_ret1 rfl ?_
      exact ⟨rfl, hs⟩
    · rw [decide_eq_false (fun h => h1 h.2)]
      refine calls (n := 9) Try.func45 rfl rfl rfl ?_
      repeat (first | refine CW.seq ?_ | refine CW.block ?_ | refine CW.skip ?_ | refine CW.label ?_ | refine CW.exit ?_ | refine CW.condT rfl ?_ | refine CW.condF rfl ?_)
      refine CW.reg ?_
      refine WL.val rfl (run_assign) ?_
      refine WL.nil ?_
      repeat (first | refine CW.seq ?_ | refine CW.block ?_ | refine CW.skip ?_ | refine CW.label ?_ | refine CW.exit ?_ | refine CW.condT rfl ?_ | refine CW.condF rfl ?_)
      refine CW.reg ?_
      refine WL.val rfl (run_move) ?_
      refine WL.val rfl (run_bT (run_geq rfl rfl) (by exact h0)) ?_
      refine WL.val rfl (run_move) ?_
      first | (refine WL.yes rfl rfl rfl ?_; refine WL.val rfl (run_move) ?_) | refine WL.no rfl rfl rfl (.inl rfl) ?_ | refine WL.no rfl rfl rfl (.inr rfl) ?_
      refine WL.yes rfl rfl rfl ?_
      refine WL.val rfl (run_bF (run_leq rfl rfl) (by exact h1)) ?_
      first | refine WL.val rfl (run_pickT rfl) ?_ | refine WL.val rfl (run_pickF rfl) ?_
      refine WL.val rfl (run_assign) ?_
      refine WL.nil ?_
      repeat (first | refine CW.seq ?_ | refine CW.block ?_ | refine CW.skip ?_ | refine CW.label ?_ | refine CW.exit ?_ | refine CW.condT rfl ?_ | refine CW.condF rfl ?_)
      refine CW.ret ?_
      refine fin_ret1 rfl ?_
      exact ⟨rfl, hs⟩
  · rw [decide_eq_false (fun h => h0 h.1)]
    refine calls (n := 9) Try.func45 rfl rfl rfl ?_
    repeat (first | refine CW.seq ?_ | refine CW.block ?_ | refine CW.skip ?_ | refine CW.label ?_ | refine CW.exit ?_ | refine CW.condT rfl ?_ | refine CW.condF rfl ?_)
    refine CW.reg ?_
    refine WL.val rfl (run_assign) ?_
    refine WL.nil ?_
    repeat (first | refine CW.seq ?_ | refine CW.block ?_ | refine CW.skip ?_ | refine CW.label ?_ | refine CW.exit ?_ | refine CW.condT rfl ?_ | refine CW.condF rfl ?_)
    refine CW.reg ?_
    refine WL.val rfl (run_move) ?_
    refine WL.val rfl (run_bF (run_geq rfl rfl) (by exact h0)) ?_
    refine WL.val rfl (run_move) ?_
    first | refine WL.no rfl rfl rfl (.inl rfl) ?_ | refine WL.no rfl rfl rfl (.inr rfl) ?_
    first | refine WL.no rfl rfl rfl (.inl rfl) ?_ | refine WL.no rfl rfl rfl (.inr rfl) ?_
    first | refine WL.val rfl (run_pickT rfl) ?_ | refine WL.val rfl (run_pickF rfl) ?_
    refine WL.val rfl (run_assign) ?_
    refine WL.nil ?_
    repeat (first | refine CW.seq ?_ | refine CW.block ?_ | refine CW.skip ?_ | refine CW.label ?_ | refine CW.exit ?_ | refine CW.condT rfl ?_ | refine CW.condF rfl ?_)
    refine CW.ret ?_
    refine fin_ret1 rfl ?_
    exact ⟨rfl, hs⟩
/-- A Store's cells. -/
def stC (k cap used last : Nat) (m : Nat) (gets puts : Nat) : List Value := [.int .i64 k, .int .i64 cap, .int .i64 used, .int .i64 last, .map (some m), .int .i64 gets, .int .i64 puts]
theorem len_spec {bs k cap used last m gets puts clock : Nat} {M : List (List UInt8 × Value × Nat)} (w0 : World) (hb : w0.heap[bs]? = some (blk 83 (stC k cap used last m gets puts))) (hm : w0.heap[m]? = some (mapObj M clock)) :
    Calls Try.prog 21 #[.pointer (some ⟨bs, 0, none⟩)] w0 (Ret0 (.int .i64 (M.length : Nat)) w0) := by
  have hs : Step [] [] w0 w0 := Step.refl w0
  have hat : At w0 bs 0 (stC k cap used last m gets puts) := At.of_blk hb
  refine calls (n := 8) Try.func21 rfl rfl rfl ?_
  repeat (first | refine CW.seq ?_ | refine CW.block ?_ | refine CW.skip ?_ | refine CW.label ?_ | refine CW.exit ?_ | refine CW.condT rfl ?_ | refine CW.condF rfl ?_)
  refine CW.reg ?_
  refine WL.val rfl (run_assign) ?_
  refine WL.nil ?_
  repeat (first | refine CW.seq ?_ | refine CW.block ?_ | refine CW.skip ?_ | refine CW.label ?_ | refine CW.exit ?_ | refine CW.condT rfl ?_ | refine CW.condF rfl ?_)
  refine CW.reg ?_
  refine WL.val rfl (run_move) ?_
  refine WL.val rfl (run_nilCheck rfl) ?_
  refine WL.val rfl (run_field (o' := 4) Try.underlying83 rfl ty81 rfl rfl rfl) ?_
  refine WL.val rfl (run_load1 ty81 rfl ((hat.step hs (by simp)).cell (j := 4) rfl)) ?_
  refine WL.val rfl (run_lenD Try.underlying81 rfl (hs.old hm (by simp))) ?_
  refine WL.val rfl (run_assign) ?_
  refine WL.nil ?_
  repeat (first | refine CW.seq ?_ | refine CW.block ?_ | refine CW.skip ?_ | refine CW.label ?_ | refine CW.exit ?_ | refine CW.condT rfl ?_ | refine CW.condF rfl ?_)
  refine CW.ret ?_
  refine fin_ret1 rfl ?_
  exact ⟨rfl, hs⟩
end Go.Gx
/-! Store3 -/
namespace Go.Gx
open Go.Proofs
set_option linter.unusedVariables false
set_option linter.unusedSimpArgs false
set_option maxRecDepth 100000
section
variable {f : Slots} {w : World} {dd : Option Tmp} {ty : TypeId} {pos : String} {af : Array Edge} {x y : Operand} {T E : TypeId} {M : List (List UInt8 × Value × Nat)} {d : List UInt8} {r clock : Nat} {z u : Value} {b : Bool}
theorem run_lookupE (ht : Try.prog.underlying T = some (.map 27 E)) (hz : (zeroValue E).run Try.prog w = .ok z w) (hM : Keys32 M) (hd : d.length = 32) (hu : ((findD d M 0).map (·.2)).getD z = u) (hb' : (findD d M 0).isSome = b) (hx : ev f x = .map (some r)) (hy : ev f y = .agg (u8s d).toArray) (hb : w.heap[r]? = some (mapObj M clock)) :
    (execOp (ev f) ⟨dd, .lookup T x y true, ty, pos, af, none⟩).run Try.prog w = .ok (.value (.tuple #[u, .bool b])) w := by
  rw [← hu, ← hb']
  exact run_lookupD ht hz hM hd hx hy hb
end
def zB : Value := .agg #[.slice none 0 0, .int .i64 0]
theorem has_spec {bs k cap used last m gets puts clock st n c : Nat} {a : Option Addr} {M : List (List UInt8 × Value × Nat)} {d : List UInt8} {b : Bool} (w0 : World) (hb : w0.heap[bs]? = some (blk 83 (stC k cap used last m gets puts))) (hm : w0.heap[m]? = some (mapObj M clock))
    (hM : Keys32 M) (hd : d.length = 32) (hu : ((findD d M 0).map (·.2)).getD zB = .agg #[.slice a n c, .int .i64 st]) (hb' : (findD d M 0).isSome = b) :
    Calls Try.prog 43 #[.pointer (some ⟨bs, 0, none⟩), .agg (u8s d).toArray] w0 (Ret0 (.bool b) w0) := by
  have hs : Step [] [] w0 w0 := Step.refl w0
  have hat : At w0 bs 0 (stC k cap used last m gets puts) := At.of_blk hb
  have hdl : (u8s d).length = 32 := by rw [u8s, List.length_map, hd]
  refine calls (n := 17) Try.func43 rfl rfl rfl ?_
  repeat (first | refine CW.seq ?_ | refine CW.block ?_ | refine CW.skip ?_ | refine CW.label ?_ | refine CW.exit ?_ | refine CW.condT rfl ?_ | refine CW.condF rfl ?_)
  refine CW.reg ?_
  refine WL.box (cs := u8s d) rfl rfl rfl hs (fun b3 w hs => ?_)
  refine WL.val rfl (run_assign) ?_
  refine WL.nil ?_
  repeat (first | refine CW.seq ?_ | refine CW.block ?_ | refine CW.skip ?_ | refine CW.label ?_ | refine CW.exit ?_ | refine CW.condT rfl ?_ | refine CW.condF rfl ?_)
  refine CW.any (A := fun w => Step [] [(b3, blk 27 (u8s d))] w0 w) (C := fun w => Step [] [(b3, blk 27 (u8s d))] w0 w) 1000000 12 mixedP rfl ?_
  replace hs := hs.drew
  refine AL.val 0 rfl (by kernel_rfl) rfl (fun w hs => run_move) ?_
  refine AL.val 1 rfl (by kernel_rfl) rfl (fun w hs => run_nilCheck rfl) ?_
  refine AL.val 2 rfl (by kernel_rfl) rfl (fun w hs => run_field (o' := 4) Try.underlying83 rfl ty81 rfl rfl rfl) ?_
  refine AL.val 3 rfl (by kernel_rfl) rfl (fun w hs => run_load1 ty81 rfl ((hat.step hs (by simp)).cell (j := 4) rfl)) ?_
  refine AL.val 4 rfl (by kernel_rfl) rfl (fun w hs => run_loadN ty27 rfl hdl hs.a0) ?_
  refine AL.val 5 rfl (by kernel_rfl) rfl (fun w hs => run_lookupE Try.underlying81 (zBlob _) hM hd hu hb' rfl rfl (hs.old hm (by simp))) ?_
  refine AL.val 6 rfl (by kernel_rfl) rfl (fun w hs => run_move) ?_
  refine AL.val 7 rfl (by kernel_rfl) rfl (fun w hs => run_extract rfl rfl) ?_
  refine AL.val 8 rfl (by kernel_rfl) rfl (fun w hs => run_extract rfl rfl) ?_
  refine AL.one 9 (by kernel_rfl) rfl (by first | exact hs | exact hs.tail) (by first | exact hs | exact hs.tail) ?_
  refine WL.alloc ty85 rfl hs (fun b5 w hs => ?_)
  refine WL.nil ?_
  refine ⟨rfl, ?_⟩
  refine AL.one 10 (by kernel_rfl) rfl (by first | exact hs | exact hs.tail) (by first | exact hs | exact hs.tail) ?_
  first | refine WL.storeAll ty85 rfl rfl (rfl) (Cells1.of_all rfl) hs (by first | rfl | assumption) (fun w hs => ?_) | refine WL.storeAll_1 ty85 rfl rfl (rfl) (Cells1.of_all rfl) hs (by first | rfl | assumption) (fun w hs => ?_) | refine WL.storeAll_2 ty85 rfl rfl (rfl) (Cells1.of_all rfl) hs (by first | rfl | assumption) (fun w hs => ?_) | refine WL.storeAll_3 ty85 rfl rfl (rfl) (Cells1.of_all rfl) hs (by first | rfl | assumption) (fun w hs => ?_) | refine WL.storeAll_4 ty85 rfl rfl (rfl) (Cells1.of_all rfl) hs (by first | rfl | assumption) (fun w hs => ?_) | refine WL.storeAll ty85 rfl rfl (rfl) (Cells1.of_all rfl) hs (by first | rfl | assumption) (fun w hs => ?_)
  refine WL.nil ?_
  refine ⟨rfl, ?_⟩
  refine AL.val 11 rfl (by kernel_rfl) rfl (fun w hs => run_assign) ?_
  refine AL.end (by kernel_rfl) (by first | exact hs | exact hs.tail) (by first | exact hs | exact hs.tail) ?_
  repeat (first | refine CW.seq ?_ | refine CW.block ?_ | refine CW.skip ?_ | refine CW.label ?_ | refine CW.exit ?_ | refine CW.condT rfl ?_ | refine CW.condF rfl ?_)
  refine CW.reg ?_
  refine WL.val rfl (run_move) ?_
  refine WL.val rfl (run_assign) ?_
  refine WL.nil ?_
  repeat (first | refine CW.seq ?_ | refine CW.block ?_ | refine CW.skip ?_ | refine CW.label ?_ | refine CW.exit ?_ | refine CW.condT rfl ?_ | refine CW.condF rfl ?_)
  refine CW.ret ?_
  refine fin_ret1 rfl ?_
  exact ⟨rfl, hs.clear⟩
end Go.Gx
/-! Store4 -/
namespace Go.Gx
open Go.Proofs
set_option linter.unusedVariables false
set_option linter.unusedSimpArgs false
set_option maxRecDepth 100000
theorem frontL_len {x : List UInt8} {k : Nat} (hk : k ≤ 32) : (frontL x k).length = 32 := cutD_len (shaL_len x) hk
attribute [local irreducible] shaL cutD frontL
theorem whole_yes {bs k cap used last m gets puts clock st c : Nat} {a : Option Addr} {M : List (List UInt8 × Value × Nat)} {d x : List UInt8} (w0 : World) (hb : w0.heap[bs]? = some (blk 83 (stC k cap used last m gets puts))) (hm : w0.heap[m]? = some (mapObj M clock))
    (hM : Keys32 M) (hd : d.length = 32) (hu : ((findD d M 0).map (·.2)).getD zB = .agg #[.slice a x.length c, .int .i64 st]) (hb' : (findD d M 0).isSome = true)
    (hv : Sl w0 1 (.slice a x.length c) x.length (u8s x)) (hcap : Room (.slice a x.length c)) (hsz : x.length < 1099511627776) (hk1 : 1 ≤ k) (hk : k ≤ 32) :
    Calls Try.prog 16 #[.pointer (some ⟨bs, 0, none⟩), .agg (u8s d).toArray] w0 (Ret0 (.bool (decide (frontL x k = d))) w0) := by
  have hs : Step [] [] w0 w0 := Step.refl w0
  have hat : At w0 bs 0 (stC k cap used last m gets puts) := At.of_blk hb
  have hdl : (u8s d).length = 32 := by rw [u8s, List.length_map, hd]
  refine calls (n := 25) Try.func16 rfl rfl rfl ?_
  repeat (first | refine CW.seq ?_ | refine CW.block ?_ | refine CW.skip ?_ | refine CW.label ?_ | refine CW.exit ?_ | refine CW.condT rfl ?_ | refine CW.condF rfl ?_)
  refine CW.reg ?_
  refine WL.box (cs := u8s d) rfl rfl rfl hs (fun b3 w hs => ?_)
  refine WL.val rfl (run_assign) ?_
  refine WL.nil ?_
  repeat (first | refine CW.seq ?_ | refine CW.block ?_ | refine CW.skip ?_ | refine CW.label ?_ | refine CW.exit ?_ | refine CW.condT rfl ?_ | refine CW.condF rfl ?_)
  refine CW.any (A := fun w => Step [] [(b3, blk 27 (u8s d))] w0 w) (C := fun w => Step [] [(b3, blk 27 (u8s d))] w0 w) 1000000 12 mixedP rfl ?_
  replace hs := hs.drew
  refine AL.val 0 rfl (by kernel_rfl) rfl (fun w hs => run_move) ?_
  refine AL.val 1 rfl (by kernel_rfl) rfl (fun w hs => run_nilCheck rfl) ?_
  refine AL.val 2 rfl (by kernel_rfl) rfl (fun w hs => run_field (o' := 4) Try.underlying83 rfl ty81 rfl rfl rfl) ?_
  refine AL.val 3 rfl (by kernel_rfl) rfl (fun w hs => run_load1 ty81 rfl ((hat.step hs (by simp)).cell (j := 4) rfl)) ?_
  refine AL.val 4 rfl (by kernel_rfl) rfl (fun w hs => run_loadN ty27 rfl hdl hs.a0) ?_
  refine AL.val 5 rfl (by kernel_rfl) rfl (fun w hs => run_lookupE Try.underlying81 (zBlob _) hM hd hu hb' rfl rfl (hs.old hm (by simp))) ?_
  refine AL.val 6 rfl (by kernel_rfl) rfl (fun w hs => run_move) ?_
  refine AL.val 7 rfl (by kernel_rfl) rfl (fun w hs => run_extract rfl rfl) ?_
  refine AL.val 8 rfl (by kernel_rfl) rfl (fun w hs => run_extract rfl rfl) ?_
  refine AL.one 9 (by kernel_rfl) rfl (by first | exact hs | exact hs.tail) (by first | exact hs | exact hs.tail) ?_
  refine WL.alloc ty85 rfl hs (fun b5 w hs => ?_)
  refine WL.nil ?_
  refine ⟨rfl, ?_⟩
  refine AL.one 10 (by kernel_rfl) rfl (by first | exact hs | exact hs.tail) (by first | exact hs | exact hs.tail) ?_
  first | refine WL.storeAll ty85 rfl rfl (rfl) (Cells1.of_all rfl) hs (by first | rfl | assumption) (fun w hs => ?_) | refine WL.storeAll_1 ty85 rfl rfl (rfl) (Cells1.of_all rfl) hs (by first | rfl | assumption) (fun w hs => ?_) | refine WL.storeAll_2 ty85 rfl rfl (rfl) (Cells1.of_all rfl) hs (by first | rfl | assumption) (fun w hs => ?_) | refine WL.storeAll_3 ty85 rfl rfl (rfl) (Cells1.of_all rfl) hs (by first | rfl | assumption) (fun w hs => ?_) | refine WL.storeAll_4 ty85 rfl rfl (rfl) (Cells1.of_all rfl) hs (by first | rfl | assumption) (fun w hs => ?_) | refine WL.storeAll ty85 rfl rfl (rfl) (Cells1.of_all rfl) hs (by first | rfl | assumption) (fun w hs => ?_)
  refine WL.nil ?_
  refine ⟨rfl, ?_⟩
  refine AL.val 11 rfl (by kernel_rfl) rfl (fun w hs => run_assign) ?_
  refine AL.end (by kernel_rfl) (by first | exact hs | exact hs.tail) (by first | exact hs | exact hs.tail) ?_
  repeat (first | refine CW.seq ?_ | refine CW.block ?_ | refine CW.skip ?_ | refine CW.label ?_ | refine CW.exit ?_ | refine CW.condT rfl ?_ | refine CW.condF rfl ?_)
  refine CW.quiet mixedP (by kernel_rfl) hs ?_
  refine QL.val rfl (fun w hs => run_move) ?_
  refine QL.val rfl (fun w hs => run_move) ?_
  first | (refine QL.yes rfl rfl rfl ?_; refine QL.val rfl (fun w hs => run_move) ?_) | refine QL.no rfl rfl rfl (.inl rfl) ?_ | refine QL.no rfl rfl rfl (.inr rfl) ?_
  first | (refine QL.yes rfl rfl rfl ?_; refine QL.val rfl (fun w hs => run_field (o' := 0) Try.underlying85 rfl ty22 rfl rfl rfl) ?_) | refine QL.no rfl rfl rfl (.inl rfl) ?_ | refine QL.no rfl rfl rfl (.inr rfl) ?_
  refine QL.yes rfl rfl rfl ?_
  refine QL.val rfl (fun w hs => run_load1 ty22 rfl (hs.c0 (v := .slice a x.length c) rfl)) ?_
  refine QL.yes rfl rfl rfl ?_
  refine QL.enter rfl (fun w => run_call en25 rfl rfl) (fun w hs => digest_spec _ ((hat.step hs (by simp)).cell (j := 0) rfl) (hv.step0 hs) hcap hsz hk1 hk) ?_
  refine QL.yes rfl rfl rfl ?_
  refine QL.val rfl (fun w hs => run_loadN ty27 rfl hdl hs.a1) ?_
  refine QL.yes rfl rfl rfl ?_
  refine QL.val rfl (fun w hs => run_eqDig (frontL_len hk) hd rfl rfl) ?_
  first | refine QL.val rfl (fun w hs => run_pickT rfl) ?_ | refine QL.val rfl (fun w hs => run_pickF rfl) ?_
  refine QL.val rfl (fun w hs => run_assign) ?_
  refine QL.nil (fun w hs => ?_)
  repeat (first | refine CW.seq ?_ | refine CW.block ?_ | refine CW.skip ?_ | refine CW.label ?_ | refine CW.exit ?_ | refine CW.condT rfl ?_ | refine CW.condF rfl ?_)
  refine CW.ret ?_
  refine fin_ret1 rfl ?_
  exact ⟨rfl, hs.clear⟩
theorem whole_no {bs k cap used last m gets puts clock : Nat} {M : List (List UInt8 × Value × Nat)} {d : List UInt8} (w0 : World) (hb : w0.heap[bs]? = some (blk 83 (stC k cap used last m gets puts))) (hm : w0.heap[m]? = some (mapObj M clock))
    (hM : Keys32 M) (hd : d.length = 32) (hu : ((findD d M 0).map (·.2)).getD zB = .agg #[.slice none 0 0, .int .i64 0]) (hb' : (findD d M 0).isSome = false) :
    Calls Try.prog 16 #[.pointer (some ⟨bs, 0, none⟩), .agg (u8s d).toArray] w0 (Ret0 (.bool false) w0) := by
  have hs : Step [] [] w0 w0 := Step.refl w0
  have hat : At w0 bs 0 (stC k cap used last m gets puts) := At.of_blk hb
  have hdl : (u8s d).length = 32 := by rw [u8s, List.length_map, hd]
  refine calls (n := 25) Try.func16 rfl rfl rfl ?_
  repeat (first | refine CW.seq ?_ | refine CW.block ?_ | refine CW.skip ?_ | refine CW.label ?_ | refine CW.exit ?_ | refine CW.condT rfl ?_ | refine CW.condF rfl ?_)
  refine CW.reg ?_
  refine WL.box (cs := u8s d) rfl rfl rfl hs (fun b3 w hs => ?_)
  refine WL.val rfl (run_assign) ?_
  refine WL.nil ?_
  repeat (first | refine CW.seq ?_ | refine CW.block ?_ | refine CW.skip ?_ | refine CW.label ?_ | refine CW.exit ?_ | refine CW.condT rfl ?_ | refine CW.condF rfl ?_)
  refine CW.any (A := fun w => Step [] [(b3, blk 27 (u8s d))] w0 w) (C := fun w => Step [] [(b3, blk 27 (u8s d))] w0 w) 1000000 12 mixedP rfl ?_
  replace hs := hs.drew
  refine AL.val 0 rfl (by kernel_rfl) rfl (fun w hs => run_move) ?_
  refine AL.val 1 rfl (by kernel_rfl) rfl (fun w hs => run_nilCheck rfl) ?_
  refine AL.val 2 rfl (by kernel_rfl) rfl (fun w hs => run_field (o' := 4) Try.underlying83 rfl ty81 rfl rfl rfl) ?_
  refine AL.val 3 rfl (by kernel_rfl) rfl (fun w hs => run_load1 ty81 rfl ((hat.step hs (by simp)).cell (j := 4) rfl)) ?_
  refine AL.val 4 rfl (by kernel_rfl) rfl (fun w hs => run_loadN ty27 rfl hdl hs.a0) ?_
  refine AL.val 5 rfl (by kernel_rfl) rfl (fun w hs => run_lookupE Try.underlying81 (zBlob _) hM hd hu hb' rfl rfl (hs.old hm (by simp))) ?_
  refine AL.val 6 rfl (by kernel_rfl) rfl (fun w hs => run_move) ?_
  refine AL.val 7 rfl (by kernel_rfl) rfl (fun w hs => run_extract rfl rfl) ?_
  refine AL.val 8 rfl (by kernel_rfl) rfl (fun w hs => run_extract rfl rfl) ?_
  refine AL.one 9 (by kernel_rfl) rfl (by first | exact hs | exact hs.tail) (by first | exact hs | exact hs.tail) ?_
  refine WL.alloc ty85 rfl hs (fun b5 w hs => ?_)
  refine WL.nil ?_
  refine ⟨rfl, ?_⟩
  refine AL.one 10 (by kernel_rfl) rfl (by first | exact hs | exact hs.tail) (by first | exact hs | exact hs.tail) ?_
  first | refine WL.storeAll ty85 rfl rfl (rfl) (Cells1.of_all rfl) hs (by first | rfl | assumption) (fun w hs => ?_) | refine WL.storeAll_1 ty85 rfl rfl (rfl) (Cells1.of_all rfl) hs (by first | rfl | assumption) (fun w hs => ?_) | refine WL.storeAll_2 ty85 rfl rfl (rfl) (Cells1.of_all rfl) hs (by first | rfl | assumption) (fun w hs => ?_) | refine WL.storeAll_3 ty85 rfl rfl (rfl) (Cells1.of_all rfl) hs (by first | rfl | assumption) (fun w hs => ?_) | refine WL.storeAll_4 ty85 rfl rfl (rfl) (Cells1.of_all rfl) hs (by first | rfl | assumption) (fun w hs => ?_) | refine WL.storeAll ty85 rfl rfl (rfl) (Cells1.of_all rfl) hs (by first | rfl | assumption) (fun w hs => ?_)
  refine WL.nil ?_
  refine ⟨rfl, ?_⟩
  refine AL.val 11 rfl (by kernel_rfl) rfl (fun w hs => run_assign) ?_
  refine AL.end (by kernel_rfl) (by first | exact hs | exact hs.tail) (by first | exact hs | exact hs.tail) ?_
  repeat (first | refine CW.seq ?_ | refine CW.block ?_ | refine CW.skip ?_ | refine CW.label ?_ | refine CW.exit ?_ | refine CW.condT rfl ?_ | refine CW.condF rfl ?_)
  refine CW.quiet mixedP (by kernel_rfl) hs ?_
  refine QL.val rfl (fun w hs => run_move) ?_
  refine QL.val rfl (fun w hs => run_move) ?_
  first | (refine QL.yes rfl rfl rfl ?_; refine QL.val rfl (fun w hs => run_move) ?_) | refine QL.no rfl rfl rfl (.inl rfl) ?_ | refine QL.no rfl rfl rfl (.inr rfl) ?_
  first | (refine QL.yes rfl rfl rfl ?_; refine QL.val rfl (fun w hs => run_field (o' := 0) Try.underlying85 rfl ty22 rfl rfl rfl) ?_) | refine QL.no rfl rfl rfl (.inl rfl) ?_ | refine QL.no rfl rfl rfl (.inr rfl) ?_
  first | refine QL.no rfl rfl rfl (.inl rfl) ?_ | refine QL.no rfl rfl rfl (.inr rfl) ?_
  first | refine QL.no rfl rfl rfl (.inl rfl) ?_ | refine QL.no rfl rfl rfl (.inr rfl) ?_
  first | refine QL.no rfl rfl rfl (.inl rfl) ?_ | refine QL.no rfl rfl rfl (.inr rfl) ?_
  first | refine QL.no rfl rfl rfl (.inl rfl) ?_ | refine QL.no rfl rfl rfl (.inr rfl) ?_
  first | refine QL.val rfl (fun w hs => run_pickT rfl) ?_ | refine QL.val rfl (fun w hs => run_pickF rfl) ?_
  refine QL.val rfl (fun w hs => run_assign) ?_
  refine QL.nil (fun w hs => ?_)
  repeat (first | refine CW.seq ?_ | refine CW.block ?_ | refine CW.skip ?_ | refine CW.label ?_ | refine CW.exit ?_ | refine CW.condT rfl ?_ | refine CW.condF rfl ?_)
  refine CW.ret ?_
  refine fin_ret1 rfl ?_
  exact ⟨rfl, hs.clear⟩
end Go.Gx
/-! Store5 -/
namespace Go.Gx
open Go.Proofs
set_option linter.unusedVariables false
set_option linter.unusedSimpArgs false
set_option maxRecDepth 100000
theorem raw_spec {bs k cap used last m gets puts clock st c : Nat} {a : Option Addr} {M : List (List UInt8 × Value × Nat)} {d x : List UInt8} {b : Bool} (w0 : World) (hb : w0.heap[bs]? = some (blk 83 (stC k cap used last m gets puts))) (hm : w0.heap[m]? = some (mapObj M clock))
    (hM : Keys32 M) (hd : d.length = 32) (hu : ((findD d M 0).map (·.2)).getD zB = .agg #[.slice a x.length c, .int .i64 st]) (hb' : (findD d M 0).isSome = b)
    (hv : Sl w0 1 (.slice a x.length c) x.length (u8s x)) (hsz : x.length < 1099511627776) :
    Calls Try.prog 17 #[.pointer (some ⟨bs, 0, none⟩), .agg (u8s d).toArray] w0 fun e w' => ∃ v' Lv, e = .returned (.tuple #[v', .bool b]) ∧ OwnSl 5 1 v' x.length (u8s x) Lv ∧ Step [] Lv w0 w' := by
  have hs : Step [] [] w0 w0 := Step.refl w0
  have hat : At w0 bs 0 (stC k cap used last m gets puts) := At.of_blk hb
  have hdl : (u8s d).length = 32 := by rw [u8s, List.length_map, hd]
  refine calls (n := 21) Try.func17 rfl rfl rfl ?_
  repeat (first | refine CW.seq ?_ | refine CW.block ?_ | refine CW.skip ?_ | refine CW.label ?_ | refine CW.exit ?_ | refine CW.condT rfl ?_ | refine CW.condF rfl ?_)
  refine CW.reg ?_
  refine WL.box (cs := u8s d) rfl rfl rfl hs (fun b3 w hs => ?_)
  refine WL.val rfl (run_assign) ?_
  refine WL.val rfl (run_assign) ?_
  refine WL.nil ?_
  repeat (first | refine CW.seq ?_ | refine CW.block ?_ | refine CW.skip ?_ | refine CW.label ?_ | refine CW.exit ?_ | refine CW.condT rfl ?_ | refine CW.condF rfl ?_)
  refine CW.any (A := fun w => Step [] [(b3, blk 27 (u8s d))] w0 w) (C := fun w => Step [] [(b3, blk 27 (u8s d))] w0 w) 1000000 12 mixedP rfl ?_
  replace hs := hs.drew
  refine AL.val 0 rfl (by kernel_rfl) rfl (fun w hs => run_move) ?_
  refine AL.val 1 rfl (by kernel_rfl) rfl (fun w hs => run_nilCheck rfl) ?_
  refine AL.val 2 rfl (by kernel_rfl) rfl (fun w hs => run_field (o' := 4) Try.underlying83 rfl ty81 rfl rfl rfl) ?_
  refine AL.val 3 rfl (by kernel_rfl) rfl (fun w hs => run_load1 ty81 rfl ((hat.step hs (by simp)).cell (j := 4) rfl)) ?_
  refine AL.val 4 rfl (by kernel_rfl) rfl (fun w hs => run_loadN ty27 rfl hdl hs.a0) ?_
  refine AL.val 5 rfl (by kernel_rfl) rfl (fun w hs => run_lookupE Try.underlying81 (zBlob _) hM hd hu hb' rfl rfl (hs.old hm (by simp))) ?_
  refine AL.val 6 rfl (by kernel_rfl) rfl (fun w hs => run_move) ?_
  refine AL.val 7 rfl (by kernel_rfl) rfl (fun w hs => run_extract rfl rfl) ?_
  refine AL.val 8 rfl (by kernel_rfl) rfl (fun w hs => run_extract rfl rfl) ?_
  refine AL.one 9 (by kernel_rfl) rfl (by first | exact hs | exact hs.tail) (by first | exact hs | exact hs.tail) ?_
  refine WL.alloc ty85 rfl hs (fun b6 w hs => ?_)
  refine WL.nil ?_
  refine ⟨rfl, ?_⟩
  refine AL.one 10 (by kernel_rfl) rfl (by first | exact hs | exact hs.tail) (by first | exact hs | exact hs.tail) ?_
  first | refine WL.storeAll ty85 rfl rfl (rfl) (Cells1.of_all rfl) hs (by first | rfl | assumption) (fun w hs => ?_) | refine WL.storeAll_1 ty85 rfl rfl (rfl) (Cells1.of_all rfl) hs (by first | rfl | assumption) (fun w hs => ?_) | refine WL.storeAll_2 ty85 rfl rfl (rfl) (Cells1.of_all rfl) hs (by first | rfl | assumption) (fun w hs => ?_) | refine WL.storeAll_3 ty85 rfl rfl (rfl) (Cells1.of_all rfl) hs (by first | rfl | assumption) (fun w hs => ?_) | refine WL.storeAll_4 ty85 rfl rfl (rfl) (Cells1.of_all rfl) hs (by first | rfl | assumption) (fun w hs => ?_) | refine WL.storeAll ty85 rfl rfl (rfl) (Cells1.of_all rfl) hs (by first | rfl | assumption) (fun w hs => ?_)
  refine WL.nil ?_
  refine ⟨rfl, ?_⟩
  refine AL.val 11 rfl (by kernel_rfl) rfl (fun w hs => run_assign) ?_
  refine AL.end (by kernel_rfl) (by first | exact hs | exact hs.tail) (by first | exact hs | exact hs.tail) ?_
  repeat (first | refine CW.seq ?_ | refine CW.block ?_ | refine CW.skip ?_ | refine CW.label ?_ | refine CW.exit ?_ | refine CW.condT rfl ?_ | refine CW.condF rfl ?_)
  refine CW.reg ?_
  refine WL.val rfl (run_field (o' := 0) Try.underlying85 rfl ty22 rfl rfl rfl) ?_
  refine WL.val rfl (run_load1 ty22 rfl (hs.c0 (v := .slice a x.length c) rfl)) ?_
  refine WL.enter rfl (run_call en42 rfl rfl) (clone_spec _ (hv.step0 hs) (by omega)) ?_
  rintro e w ⟨v', Lv, rfl, hu', hq⟩
  refine ⟨_, rfl, ?_⟩
  replace hs := Step.call0 hs hq
  refine WL.val rfl (run_move) ?_
  refine WL.val rfl (run_assign) ?_
  refine WL.val rfl (run_assign) ?_
  refine WL.nil ?_
  repeat (first | refine CW.seq ?_ | refine CW.block ?_ | refine CW.skip ?_ | refine CW.label ?_ | refine CW.exit ?_ | refine CW.condT rfl ?_ | refine CW.condF rfl ?_)
  refine CW.ret ?_
  refine fin_ret2 rfl ?_
  exact ⟨v', Lv, rfl, hu', hs.dropR⟩
end Go.Gx
/-! Store6 -/
namespace Go.Gx
open Go.Proofs
set_option linter.unusedVariables false
set_option linter.unusedSimpArgs false
set_option maxRecDepth 100000
section
variable {bs k cap used last m gets puts : Nat}
theorem used_spec (w0 : World) (hb : w0.heap[bs]? = some (blk 83 (stC k cap used last m gets puts))) : Calls Try.prog 22 #[.pointer (some ⟨bs, 0, none⟩)] w0 (Ret0 (.int .i64 (used : Nat)) w0) := by
  have hs : Step [] [] w0 w0 := Step.refl w0
  have hat : At w0 bs 0 (stC k cap used last m gets puts) := At.of_blk hb
  refine calls (n := 7) Try.func22 rfl rfl rfl ?_
  repeat (first | refine CW.seq ?_ | refine CW.block ?_ | refine CW.skip ?_ | refine CW.label ?_ | refine CW.exit ?_ | refine CW.condT rfl ?_ | refine CW.condF rfl ?_)
  refine CW.reg ?_
  refine WL.val rfl (run_assign) ?_
  refine WL.nil ?_
  repeat (first | refine CW.seq ?_ | refine CW.block ?_ | refine CW.skip ?_ | refine CW.label ?_ | refine CW.exit ?_ | refine CW.condT rfl ?_ | refine CW.condF rfl ?_)
  refine CW.reg ?_
  refine WL.val rfl (run_move) ?_
  refine WL.val rfl (run_nilCheck rfl) ?_
  refine WL.val rfl (run_field (o' := 2) Try.underlying83 rfl ty3 rfl rfl rfl) ?_
  refine WL.val rfl (run_load1 ty3 rfl ((hat.step hs (by simp)).cell (j := 2) rfl)) ?_
  refine WL.val rfl (run_assign) ?_
  refine WL.nil ?_
  repeat (first | refine CW.seq ?_ | refine CW.block ?_ | refine CW.skip ?_ | refine CW.label ?_ | refine CW.exit ?_ | refine CW.condT rfl ?_ | refine CW.condF rfl ?_)
  refine CW.ret ?_
  refine fin_ret1 rfl ?_
  exact ⟨rfl, hs⟩
theorem cap_spec (w0 : World) (hb : w0.heap[bs]? = some (blk 83 (stC k cap used last m gets puts))) : Calls Try.prog 23 #[.pointer (some ⟨bs, 0, none⟩)] w0 (Ret0 (.int .i64 (cap : Nat)) w0) := by
  have hs : Step [] [] w0 w0 := Step.refl w0
  have hat : At w0 bs 0 (stC k cap used last m gets puts) := At.of_blk hb
  refine calls (n := 7) Try.func23 rfl rfl rfl ?_
  repeat (first | refine CW.seq ?_ | refine CW.block ?_ | refine CW.skip ?_ | refine CW.label ?_ | refine CW.exit ?_ | refine CW.condT rfl ?_ | refine CW.condF rfl ?_)
  refine CW.reg ?_
  refine WL.val rfl (run_assign) ?_
  refine WL.nil ?_
  repeat (first | refine CW.seq ?_ | refine CW.block ?_ | refine CW.skip ?_ | refine CW.label ?_ | refine CW.exit ?_ | refine CW.condT rfl ?_ | refine CW.condF rfl ?_)
  refine CW.reg ?_
  refine WL.val rfl (run_move) ?_
  refine WL.val rfl (run_nilCheck rfl) ?_
  refine WL.val rfl (run_field (o' := 1) Try.underlying83 rfl ty3 rfl rfl rfl) ?_
  refine WL.val rfl (run_load1 ty3 rfl ((hat.step hs (by simp)).cell (j := 1) rfl)) ?_
  refine WL.val rfl (run_assign) ?_
  refine WL.nil ?_
  repeat (first | refine CW.seq ?_ | refine CW.block ?_ | refine CW.skip ?_ | refine CW.label ?_ | refine CW.exit ?_ | refine CW.condT rfl ?_ | refine CW.condF rfl ?_)
  refine CW.ret ?_
  refine fin_ret1 rfl ?_
  exact ⟨rfl, hs⟩
theorem width_spec (w0 : World) (hb : w0.heap[bs]? = some (blk 83 (stC k cap used last m gets puts))) : Calls Try.prog 14 #[.pointer (some ⟨bs, 0, none⟩)] w0 (Ret0 (.int .i64 (k : Nat)) w0) := by
  have hs : Step [] [] w0 w0 := Step.refl w0
  have hat : At w0 bs 0 (stC k cap used last m gets puts) := At.of_blk hb
  refine calls (n := 7) Try.func14 rfl rfl rfl ?_
  repeat (first | refine CW.seq ?_ | refine CW.block ?_ | refine CW.skip ?_ | refine CW.label ?_ | refine CW.exit ?_ | refine CW.condT rfl ?_ | refine CW.condF rfl ?_)
  refine CW.reg ?_
  refine WL.val rfl (run_assign) ?_
  refine WL.nil ?_
  repeat (first | refine CW.seq ?_ | refine CW.block ?_ | refine CW.skip ?_ | refine CW.label ?_ | refine CW.exit ?_ | refine CW.condT rfl ?_ | refine CW.condF rfl ?_)
  refine CW.reg ?_
  refine WL.val rfl (run_move) ?_
  refine WL.val rfl (run_nilCheck rfl) ?_
  refine WL.val rfl (run_field (o' := 0) Try.underlying83 rfl ty3 rfl rfl rfl) ?_
  refine WL.val rfl (run_load1 ty3 rfl ((hat.step hs (by simp)).cell (j := 0) rfl)) ?_
  refine WL.val rfl (run_assign) ?_
  refine WL.nil ?_
  repeat (first | refine CW.seq ?_ | refine CW.block ?_ | refine CW.skip ?_ | refine CW.label ?_ | refine CW.exit ?_ | refine CW.condT rfl ?_ | refine CW.condF rfl ?_)
  refine CW.ret ?_
  refine fin_ret1 rfl ?_
  exact ⟨rfl, hs⟩
end
end Go.Gx
/-! Store7 -/
namespace Go.Gx
open Go.Proofs
set_option linter.unusedVariables false
set_option linter.unusedSimpArgs false
set_option maxRecDepth 100000
section
variable {bs k cap used last m gets puts : Nat}
theorem counts_spec (w0 : World) (hb : w0.heap[bs]? = some (blk 83 (stC k cap used last m gets puts))) : Calls Try.prog 34 #[.pointer (some ⟨bs, 0, none⟩)] w0 (Ret0 (.agg #[.int .i64 (gets : Nat), .int .i64 (puts : Nat)]) w0) := by
  have hs : Step [] [] w0 w0 := Step.refl w0
  have hat : At w0 bs 0 (stC k cap used last m gets puts) := At.of_blk hb
  refine calls (n := 7) Try.func34 rfl rfl rfl ?_
  repeat (first | refine CW.seq ?_ | refine CW.block ?_ | refine CW.skip ?_ | refine CW.label ?_ | refine CW.exit ?_ | refine CW.condT rfl ?_ | refine CW.condF rfl ?_)
  refine CW.reg ?_
  refine WL.alloc ty66 rfl hs (fun b2 w hs => ?_)
  refine WL.nil ?_
  repeat (first | refine CW.seq ?_ | refine CW.block ?_ | refine CW.skip ?_ | refine CW.label ?_ | refine CW.exit ?_ | refine CW.condT rfl ?_ | refine CW.condF rfl ?_)
  refine CW.reg ?_
  refine WL.val rfl (run_move) ?_
  refine WL.val rfl (run_nilCheck rfl) ?_
  refine WL.val rfl (run_field (o' := 5) Try.underlying83 rfl ty66 rfl rfl rfl) ?_
  refine WL.val rfl (run_loadN ty66 rfl (cs := [.int .i64 (gets : Nat), .int .i64 (puts : Nat)]) (by rfl) ((hat.step hs (by simp)).drop 5)) ?_
  first | refine WL.storeAll ty66 rfl rfl ((by rfl)) (Cells1.of_all rfl) hs (by first | rfl | assumption) (fun w hs => ?_) | refine WL.storeAll_1 ty66 rfl rfl ((by rfl)) (Cells1.of_all rfl) hs (by first | rfl | assumption) (fun w hs => ?_) | refine WL.storeAll_2 ty66 rfl rfl ((by rfl)) (Cells1.of_all rfl) hs (by first | rfl | assumption) (fun w hs => ?_) | refine WL.storeAll_3 ty66 rfl rfl ((by rfl)) (Cells1.of_all rfl) hs (by first | rfl | assumption) (fun w hs => ?_) | refine WL.storeAll_4 ty66 rfl rfl ((by rfl)) (Cells1.of_all rfl) hs (by first | rfl | assumption) (fun w hs => ?_) | refine WL.storeAll ty66 rfl rfl ((by rfl)) (Cells1.of_all rfl) hs (by first | rfl | assumption) (fun w hs => ?_)
  refine WL.nil ?_
  repeat (first | refine CW.seq ?_ | refine CW.block ?_ | refine CW.skip ?_ | refine CW.label ?_ | refine CW.exit ?_ | refine CW.condT rfl ?_ | refine CW.condF rfl ?_)
  refine CW.ret ?_
  first | refine fin_cell1 rfl rfl (run_loadVarN ty66 (by first | rfl | assumption | (simp; done)) hs.a0) ?_ | refine fin_cell1 rfl rfl (run_loadVarN ty66 (by first | rfl | assumption | (simp; done)) hs.a1) ?_ | refine fin_cell1 rfl rfl (run_loadVarN ty66 (by first | rfl | assumption | (simp; done)) hs.a2) ?_ | refine fin_cell1 rfl rfl (run_loadVarN ty66 (by first | rfl | assumption | (simp; done)) hs.a3) ?_ | refine fin_cell1 rfl rfl (run_loadVarN ty66 (by first | rfl | assumption | (simp; done)) hs.a4) ?_ | refine fin_cell1 rfl rfl (run_loadVarN ty66 (by first | rfl | assumption | (simp; done)) hs.a5) ?_
  exact ⟨rfl, hs.clear⟩
theorem limit_bad {c : Int} (hc : ¬ (0 ≤ c ∧ c ≤ 67108864)) (w : World) : Calls Try.prog 29 #[.pointer (some ⟨bs, 0, none⟩), .int .i64 c] w (Ret0 (.int .i64 1) w) := by
  have hs : Step [] [] w w := Step.refl w
  have hcap := fun w => capable_spec c w
  simp only [decide_eq_false hc] at hcap
  refine calls (n := 12) Try.func29 rfl rfl rfl ?_
  repeat (first | refine CW.seq ?_ | refine CW.block ?_ | refine CW.skip ?_ | refine CW.label ?_ | refine CW.exit ?_ | refine CW.condT rfl ?_ | refine CW.condF rfl ?_)
  refine CW.reg ?_
  refine WL.val rfl (run_assign) ?_
  refine WL.nil ?_
  repeat (first | refine CW.seq ?_ | refine CW.block ?_ | refine CW.skip ?_ | refine CW.label ?_ | refine CW.exit ?_ | refine CW.condT rfl ?_ | refine CW.condF rfl ?_)
  refine CW.reg ?_
  refine WL.val rfl (run_move) ?_
  refine WL.enter rfl (run_call en45 rfl rfl) (hcap _) ?_
  rintro e w ⟨rfl, hq⟩
  refine ⟨_, rfl, ?_⟩
  replace hs := hs.callE hq
  first | refine WL.val rfl (run_notB rfl) ?_ | refine WL.val rfl (run_not rfl) ?_
  refine WL.nil ?_
  repeat (first | refine CW.seq ?_ | refine CW.block ?_ | refine CW.skip ?_ | refine CW.label ?_ | refine CW.exit ?_)
  first | refine CW.condP rfl (fun h => ?_) (fun h => ?_) | refine CW.cond rfl (fun h => ?_) (fun h => ?_)
  · repeat (first | refine CW.seq ?_ | refine CW.block ?_ | refine CW.skip ?_ | refine CW.label ?_ | refine CW.exit ?_ | refine CW.condT rfl ?_ | refine CW.condF rfl ?_)
    refine CW.reg ?_
    refine WL.val rfl (run_assign) ?_
    refine WL.nil ?_
    repeat (first | refine CW.seq ?_ | refine CW.block ?_ | refine CW.skip ?_ | refine CW.label ?_ | refine CW.exit ?_ | refine CW.condT rfl ?_ | refine CW.condF rfl ?_)
    refine CW.ret ?_
    refine fin_ret1 rfl ?_
    exact ⟨rfl, hs⟩
  · cases h
theorem limit_ok {c : Nat} (hc : c ≤ 67108864) (w0 : World) (hb : w0.heap[bs]? = some (blk 83 (stC k cap used last m gets puts))) : Calls Try.prog 29 #[.pointer (some ⟨bs, 0, none⟩), .int .i64 c] w0 (fun e w' => e = .returned (.int .i64 0) ∧ Step [bs] [(bs, blk 83 (stC k c used last m gets puts))] w0 w') := by
  have hs : Step [bs] [(bs, blk 83 (stC k cap used last m gets puts))] w0 w0 := Step.start (L := [(bs, blk 83 (stC k cap used last m gets puts))]) (by simp) (by simpa using hb)
  have hcap := fun w => capable_spec (c : Int) w
  have hc' : (0 : Int) ≤ c ∧ (c : Int) ≤ 67108864 := by omega
  simp only [decide_eq_true hc'] at hcap
  refine calls (n := 12) Try.func29 rfl rfl rfl ?_
  repeat (first | refine CW.seq ?_ | refine CW.block ?_ | refine CW.skip ?_ | refine CW.label ?_ | refine CW.exit ?_ | refine CW.condT rfl ?_ | refine CW.condF rfl ?_)
  refine CW.reg ?_
  refine WL.val rfl (run_assign) ?_
  refine WL.nil ?_
  repeat (first | refine CW.seq ?_ | refine CW.block ?_ | refine CW.skip ?_ | refine CW.label ?_ | refine CW.exit ?_ | refine CW.condT rfl ?_ | refine CW.condF rfl ?_)
  refine CW.reg ?_
  refine WL.val rfl (run_move) ?_
  refine WL.enter rfl (run_call en45 rfl rfl) (hcap _) ?_
  rintro e w ⟨rfl, hq⟩
  refine ⟨_, rfl, ?_⟩
  replace hs := hs.callE hq
  first | refine WL.val rfl (run_notB rfl) ?_ | refine WL.val rfl (run_not rfl) ?_
  refine WL.nil ?_
  repeat (first | refine CW.seq ?_ | refine CW.block ?_ | refine CW.skip ?_ | refine CW.label ?_ | refine CW.exit ?_)
  first | refine CW.condP rfl (fun h => ?_) (fun h => ?_) | refine CW.cond rfl (fun h => ?_) (fun h => ?_)
  · cases h
  · repeat (first | refine CW.seq ?_ | refine CW.block ?_ | refine CW.skip ?_ | refine CW.label ?_ | refine CW.exit ?_ | refine CW.condT rfl ?_ | refine CW.condF rfl ?_)
    refine CW.reg ?_
    refine WL.val rfl (run_move) ?_
    refine WL.val rfl (run_move) ?_
    refine WL.val rfl (run_nilCheck rfl) ?_
    refine WL.val rfl (run_field (o' := 1) Try.underlying83 rfl ty3 rfl rfl rfl) ?_
    first | refine WL.store1 ty3 rfl rfl (rfl) hs (by first | (simp; done) | omega | (simp only [List.length_append, List.length_replicate, List.length_cons, List.length_nil, List.length_set]; omega) | (simp [Ent.cells, u8s]; done) | exact Nat.le_of_ble_eq_true rfl) (fun w hs => ?_) | refine WL.store1_1 ty3 rfl rfl (rfl) hs (by first | (simp; done) | omega | (simp only [List.length_append, List.length_replicate, List.length_cons, List.length_nil, List.length_set]; omega) | (simp [Ent.cells, u8s]; done) | exact Nat.le_of_ble_eq_true rfl) (fun w hs => ?_) | refine WL.store1_2 ty3 rfl rfl (rfl) hs (by first | (simp; done) | omega | (simp only [List.length_append, List.length_replicate, List.length_cons, List.length_nil, List.length_set]; omega) | (simp [Ent.cells, u8s]; done) | exact Nat.le_of_ble_eq_true rfl) (fun w hs => ?_) | refine WL.store1_3 ty3 rfl rfl (rfl) hs (by first | (simp; done) | omega | (simp only [List.length_append, List.length_replicate, List.length_cons, List.length_nil, List.length_set]; omega) | (simp [Ent.cells, u8s]; done) | exact Nat.le_of_ble_eq_true rfl) (fun w hs => ?_) | refine WL.store1_4 ty3 rfl rfl (rfl) hs (by first | (simp; done) | omega | (simp only [List.length_append, List.length_replicate, List.length_cons, List.length_nil, List.length_set]; omega) | (simp [Ent.cells, u8s]; done) | exact Nat.le_of_ble_eq_true rfl) (fun w hs => ?_) | refine WL.store1 ty3 rfl rfl (rfl) hs (by first | (simp; done) | omega | (simp only [List.length_append, List.length_replicate, List.length_cons, List.length_nil, List.length_set]; omega) | (simp [Ent.cells, u8s]; done) | exact Nat.le_of_ble_eq_true rfl) (fun w hs => ?_)
    refine WL.nil ?_
    repeat (first | refine CW.seq ?_ | refine CW.block ?_ | refine CW.skip ?_ | refine CW.label ?_ | refine CW.exit ?_ | refine CW.condT rfl ?_ | refine CW.condF rfl ?_)
    refine CW.reg ?_
    refine WL.val rfl (run_assign) ?_
    refine WL.nil ?_
    repeat (first | refine CW.seq ?_ | refine CW.block ?_ | refine CW.skip ?_ | refine CW.label ?_ | refine CW.exit ?_ | refine CW.condT rfl ?_ | refine CW.condF rfl ?_)
    refine CW.ret ?_
    refine fin_ret1 rfl ?_
    exact ⟨rfl, hs⟩
end
end Go.Gx
/-! Store8 -/
namespace Go.Gx
open Go.Proofs
set_option linter.unusedVariables false
set_option linter.unusedSimpArgs false
set_option maxRecDepth 100000
section
variable {f : Slots} {w : World} {dd : Option Tmp} {ty : TypeId} {pos : String} {af : Array Edge} {x y : Operand} {T E : TypeId} {M : List (List UInt8 × Value × Nat)} {d : List UInt8} {r clock : Nat} {z u : Value}
theorem run_lookupV (ht : Try.prog.underlying T = some (.map 27 E)) (hz : (zeroValue E).run Try.prog w = .ok z w) (hM : Keys32 M) (hd : d.length = 32) (hu : ((findD d M 0).map (·.2)).getD z = u) (hx : ev f x = .map (some r)) (hy : ev f y = .agg (u8s d).toArray) (hb : w.heap[r]? = some (mapObj M clock)) :
    (execOp (ev f) ⟨dd, .lookup T x y false, ty, pos, af, none⟩).run Try.prog w = .ok (.value u) w := by
  have h1 := run_findKey hd w hM
  have h2 := run_keyOk hd (ents M).toArray.isEmpty w
  have hg : (getObj r).run Try.prog w = .ok (mapObj M clock) w := MapKept.run_getObj_map (P := Try.prog) hb
  simp only [execOp, hx, hy, Instr.lookup, Sem.run_bind, run_underlying ht, Result.andThen_ok, hg, mapObj, Sem.run_pure, h2, h1]
  subst hu
  cases hf : findD d M 0 with
  | none => simp [hz]
  | some p => simp
theorem run_fieldV {P : Program} {fs : Array Field} {fd : Field} {i n bytes : Nat} {zs vs : List Value} {v : Value} (ht : P.underlying T = some (.struct fs)) (hf : fs[i]? = some fd) (hE : Ty P fd.type false n bytes zs) (hx : ev f x = .agg vs.toArray) (hv : vs[fd.offset]? = some v) :
    (execOp (ev f) ⟨dd, .field T x i, ty, pos, af, none⟩).run P w = .ok (.value v) w := by
  simp [execOp, hx, Instr.field, run_underlying ht, hf, asAgg, part, run_isAgg hE, hv]
end
section
variable {bs k cap used last m gets puts clock st n c : Nat} {a : Option Addr} {M : List (List UInt8 × Value × Nat)} {d : List UInt8} {b : Bool}
theorem stamp_spec (w0 : World) (hb : w0.heap[bs]? = some (blk 83 (stC k cap used last m gets puts))) (hm : w0.heap[m]? = some (mapObj M clock))
    (hM : Keys32 M) (hd : d.length = 32) (hu : ((findD d M 0).map (·.2)).getD zB = .agg #[.slice a n c, .int .i64 st]) :
    Calls Try.prog 48 #[.pointer (some ⟨bs, 0, none⟩), .agg (u8s d).toArray] w0 (Ret0 (.int .i64 st) w0) := by
  have hs : Step [] [] w0 w0 := Step.refl w0
  have hat : At w0 bs 0 (stC k cap used last m gets puts) := At.of_blk hb
  have hdl : (u8s d).length = 32 := by rw [u8s, List.length_map, hd]
  refine calls (n := 12) Try.func48 rfl rfl rfl ?_
  repeat (first | refine CW.seq ?_ | refine CW.block ?_ | refine CW.skip ?_ | refine CW.label ?_ | refine CW.exit ?_ | refine CW.condT rfl ?_ | refine CW.condF rfl ?_)
  refine CW.reg ?_
  refine WL.box (cs := u8s d) rfl rfl rfl hs (fun b3 w hs => ?_)
  refine WL.val rfl (run_assign) ?_
  refine WL.nil ?_
  repeat (first | refine CW.seq ?_ | refine CW.block ?_ | refine CW.skip ?_ | refine CW.label ?_ | refine CW.exit ?_ | refine CW.condT rfl ?_ | refine CW.condF rfl ?_)
  refine CW.quiet mixedP (by kernel_rfl) hs ?_
  refine QL.val rfl (fun w hs => run_move) ?_
  refine QL.val rfl (fun w hs => run_nilCheck rfl) ?_
  refine QL.val rfl (fun w hs => run_field (o' := 4) Try.underlying83 rfl ty81 rfl rfl rfl) ?_
  refine QL.val rfl (fun w hs => run_load1 ty81 rfl ((hat.step hs.clear (by simp)).cell (j := 4) rfl)) ?_
  refine QL.val rfl (fun w hs => run_loadN ty27 rfl hdl hs.a0) ?_
  refine QL.val rfl (fun w hs => run_lookupV Try.underlying81 (zBlob _) hM hd hu rfl rfl (hs.old hm (by simp))) ?_
  refine QL.val rfl (fun w hs => run_fieldV Try.underlying85 rfl ty3 rfl rfl) ?_
  refine QL.val rfl (fun w hs => run_assign) ?_
  refine QL.nil (fun w hs => ?_)
  repeat (first | refine CW.seq ?_ | refine CW.block ?_ | refine CW.skip ?_ | refine CW.label ?_ | refine CW.exit ?_ | refine CW.condT rfl ?_ | refine CW.condF rfl ?_)
  refine CW.ret ?_
  refine fin_ret1 rfl ?_
  exact ⟨rfl, hs.clear⟩
theorem evict_no (w0 : World) (hb : w0.heap[bs]? = some (blk 83 (stC k cap used last m gets puts))) (hm : w0.heap[m]? = some (mapObj M clock))
    (hM : Keys32 M) (hd : d.length = 32) (hf : findD d M 0 = none) :
    Calls Try.prog 26 #[.pointer (some ⟨bs, 0, none⟩), .agg (u8s d).toArray] w0 (Ret0 (.bool false) w0) := by
  have hs : Step [] [] w0 w0 := Step.refl w0
  have hat : At w0 bs 0 (stC k cap used last m gets puts) := At.of_blk hb
  have hdl : (u8s d).length = 32 := by rw [u8s, List.length_map, hd]
  have hu : ((findD d M 0).map (·.2)).getD zB = .agg #[.slice none 0 0, .int .i64 0] := by rw [hf]; rfl
  have hb' : (findD d M 0).isSome = false := by rw [hf]; rfl
  refine calls (n := 33) Try.func26 rfl rfl rfl ?_
  repeat (first | refine CW.seq ?_ | refine CW.block ?_ | refine CW.skip ?_ | refine CW.label ?_ | refine CW.exit ?_ | refine CW.condT rfl ?_ | refine CW.condF rfl ?_)
  refine CW.reg ?_
  refine WL.box (cs := u8s d) rfl rfl rfl hs (fun b3 w hs => ?_)
  refine WL.val rfl (run_assign) ?_
  refine WL.nil ?_
  repeat (first | refine CW.seq ?_ | refine CW.block ?_ | refine CW.skip ?_ | refine CW.label ?_ | refine CW.exit ?_ | refine CW.condT rfl ?_ | refine CW.condF rfl ?_)
  refine CW.any (A := fun w => Step [] [(b3, blk 27 (u8s d))] w0 w) (C := fun w => Step [] [(b3, blk 27 (u8s d))] w0 w) 1000000 12 mixedP rfl ?_
  replace hs := hs.drew
  refine AL.val 0 rfl (by kernel_rfl) rfl (fun w hs => run_move) ?_
  refine AL.val 1 rfl (by kernel_rfl) rfl (fun w hs => run_nilCheck rfl) ?_
  refine AL.val 2 rfl (by kernel_rfl) rfl (fun w hs => run_field (o' := 4) Try.underlying83 rfl ty81 rfl rfl rfl) ?_
  refine AL.val 3 rfl (by kernel_rfl) rfl (fun w hs => run_load1 ty81 rfl ((hat.step hs (by simp)).cell (j := 4) rfl)) ?_
  refine AL.val 4 rfl (by kernel_rfl) rfl (fun w hs => run_loadN ty27 rfl hdl hs.a0) ?_
  refine AL.val 5 rfl (by kernel_rfl) rfl (fun w hs => run_lookupE Try.underlying81 (zBlob _) hM hd hu hb' rfl rfl (hs.old hm (by simp))) ?_
  refine AL.val 6 rfl (by kernel_rfl) rfl (fun w hs => run_move) ?_
  refine AL.val 7 rfl (by kernel_rfl) rfl (fun w hs => run_extract rfl rfl) ?_
  refine AL.val 8 rfl (by kernel_rfl) rfl (fun w hs => run_extract rfl rfl) ?_
  refine AL.one 9 (by kernel_rfl) rfl (by first | exact hs | exact hs.tail) (by first | exact hs | exact hs.tail) ?_
  refine WL.alloc ty85 rfl hs (fun b5 w hs => ?_)
  refine WL.nil ?_
  refine ⟨rfl, ?_⟩
  refine AL.one 10 (by kernel_rfl) rfl (by first | exact hs | exact hs.tail) (by first | exact hs | exact hs.tail) ?_
  first | refine WL.storeAll ty85 rfl rfl (rfl) (Cells1.of_all rfl) hs (by first | rfl | assumption) (fun w hs => ?_) | refine WL.storeAll_1 ty85 rfl rfl (rfl) (Cells1.of_all rfl) hs (by first | rfl | assumption) (fun w hs => ?_) | refine WL.storeAll_2 ty85 rfl rfl (rfl) (Cells1.of_all rfl) hs (by first | rfl | assumption) (fun w hs => ?_) | refine WL.storeAll_3 ty85 rfl rfl (rfl) (Cells1.of_all rfl) hs (by first | rfl | assumption) (fun w hs => ?_) | refine WL.storeAll_4 ty85 rfl rfl (rfl) (Cells1.of_all rfl) hs (by first | rfl | assumption) (fun w hs => ?_) | refine WL.storeAll ty85 rfl rfl (rfl) (Cells1.of_all rfl) hs (by first | rfl | assumption) (fun w hs => ?_)
  refine WL.nil ?_
  refine ⟨rfl, ?_⟩
  refine AL.val 11 rfl (by kernel_rfl) rfl (fun w hs => run_assign) ?_
  refine AL.end (by kernel_rfl) (by first | exact hs | exact hs.tail) (by first | exact hs | exact hs.tail) ?_
  repeat (first | refine CW.seq ?_ | refine CW.block ?_ | refine CW.skip ?_ | refine CW.label ?_ | refine CW.exit ?_ | refine CW.condT rfl ?_ | refine CW.condF rfl ?_)
  refine CW.reg ?_
  refine WL.val rfl (run_move) ?_
  refine WL.nil ?_
  repeat (first | refine CW.seq ?_ | refine CW.block ?_ | refine CW.skip ?_ | refine CW.label ?_ | refine CW.exit ?_)
  first | refine CW.condP rfl (fun h => ?_) (fun h => ?_) | refine CW.cond rfl (fun h => ?_) (fun h => ?_)
  · cases h
  · repeat (first | refine CW.seq ?_ | refine CW.block ?_ | refine CW.skip ?_ | refine CW.label ?_ | refine CW.exit ?_ | refine CW.condT rfl ?_ | refine CW.condF rfl ?_)
    refine CW.reg ?_
    refine WL.val rfl (run_move) ?_
    refine WL.val rfl (run_assign) ?_
    refine WL.nil ?_
    repeat (first | refine CW.seq ?_ | refine CW.block ?_ | refine CW.skip ?_ | refine CW.label ?_ | refine CW.exit ?_ | refine CW.condT rfl ?_ | refine CW.condF rfl ?_)
    refine CW.ret ?_
    refine fin_ret1 rfl ?_
    exact ⟨rfl, hs.clear⟩
theorem evict_yes {x : List UInt8} {i : Nat} (hne : bs ≠ m) (w0 : World) (hb : w0.heap[bs]? = some (blk 83 (stC k cap used last m gets puts))) (hm : w0.heap[m]? = some (mapObj M clock))
    (hM : Keys32 M) (hd : d.length = 32) (hf : findD d M 0 = some (i, .agg #[.slice a x.length c, .int .i64 st])) (hv : Sl w0 1 (.slice a x.length c) x.length (u8s x)) (hsz : x.length < 1099511627776) (hou : x.length + 32 ≤ used) (hus : used < 1099511627776) (hO : Outside (.slice a x.length c) [bs, m]) :
    Calls Try.prog 26 #[.pointer (some ⟨bs, 0, none⟩), .agg (u8s d).toArray] w0 (fun e w' => e = .returned (.bool true) ∧ Step [bs, m] [(bs, blk 83 (stC k cap (used - (x.length + 32)) last m gets puts)), (m, mapObj (delM d M) clock)] w0 w') := by
  have hs : Step [bs, m] [(bs, blk 83 (stC k cap used last m gets puts)), (m, mapObj M clock)] w0 w0 := Step.start (L := [(bs, blk 83 (stC k cap used last m gets puts)), (m, mapObj M clock)]) (by simpa using hne) (by intro p hp; simp at hp; rcases hp with rfl | rfl; exact hb; exact hm)
  have hdl : (u8s d).length = 32 := by rw [u8s, List.length_map, hd]
  have hu : ((findD d M 0).map (·.2)).getD zB = .agg #[.slice a x.length c, .int .i64 st] := by rw [hf]; rfl
  have hb' : (findD d M 0).isSome = true := by rw [hf]; rfl
  refine calls (n := 33) Try.func26 rfl rfl rfl ?_
  repeat (first | refine CW.seq ?_ | refine CW.block ?_ | refine CW.skip ?_ | refine CW.label ?_ | refine CW.exit ?_ | refine CW.condT rfl ?_ | refine CW.condF rfl ?_)
  refine CW.reg ?_
  refine WL.box (cs := u8s d) rfl rfl rfl hs (fun b3 w hs => ?_)
  refine WL.val rfl (run_assign) ?_
  refine WL.nil ?_
  repeat (first | refine CW.seq ?_ | refine CW.block ?_ | refine CW.skip ?_ | refine CW.label ?_ | refine CW.exit ?_ | refine CW.condT rfl ?_ | refine CW.condF rfl ?_)
  refine CW.any (A := fun w => Step [bs, m] [(b3, blk 27 (u8s d)), (bs, blk 83 (stC k cap used last m gets puts)), (m, mapObj M clock)] w0 w) (C := fun w => Step [bs, m] [(b3, blk 27 (u8s d)), (bs, blk 83 (stC k cap used last m gets puts)), (m, mapObj M clock)] w0 w) 1000000 12 mixedP rfl ?_
  replace hs := hs.drew
  refine AL.val 0 rfl (by kernel_rfl) rfl (fun w hs => run_move) ?_
  refine AL.val 1 rfl (by kernel_rfl) rfl (fun w hs => run_nilCheck rfl) ?_
  refine AL.val 2 rfl (by kernel_rfl) rfl (fun w hs => run_field (o' := 4) Try.underlying83 rfl ty81 rfl rfl rfl) ?_
  refine AL.val 3 rfl (by kernel_rfl) rfl (fun w hs => run_load1 ty81 rfl ((by first | exact hs.c1 rfl | exact hs.c2 rfl))) ?_
  refine AL.val 4 rfl (by kernel_rfl) rfl (fun w hs => run_loadN ty27 rfl hdl hs.a0) ?_
  refine AL.val 5 rfl (by kernel_rfl) rfl (fun w hs => run_lookupE Try.underlying81 (zBlob _) hM hd hu hb' rfl rfl (hs.get (o := mapObj M clock) (by simp))) ?_
  refine AL.val 6 rfl (by kernel_rfl) rfl (fun w hs => run_move) ?_
  refine AL.val 7 rfl (by kernel_rfl) rfl (fun w hs => run_extract rfl rfl) ?_
  refine AL.val 8 rfl (by kernel_rfl) rfl (fun w hs => run_extract rfl rfl) ?_
  refine AL.one 9 (by kernel_rfl) rfl (by first | exact hs | exact hs.tail) (by first | exact hs | exact hs.tail) ?_
  refine WL.alloc ty85 rfl hs (fun b5 w hs => ?_)
  refine WL.nil ?_
  refine ⟨rfl, ?_⟩
  refine AL.one 10 (by kernel_rfl) rfl (by first | exact hs | exact hs.tail) (by first | exact hs | exact hs.tail) ?_
  first | refine WL.storeAll ty85 rfl rfl (rfl) (Cells1.of_all rfl) hs (by first | rfl | assumption) (fun w hs => ?_) | refine WL.storeAll_1 ty85 rfl rfl (rfl) (Cells1.of_all rfl) hs (by first | rfl | assumption) (fun w hs => ?_) | refine WL.storeAll_2 ty85 rfl rfl (rfl) (Cells1.of_all rfl) hs (by first | rfl | assumption) (fun w hs => ?_) | refine WL.storeAll_3 ty85 rfl rfl (rfl) (Cells1.of_all rfl) hs (by first | rfl | assumption) (fun w hs => ?_) | refine WL.storeAll_4 ty85 rfl rfl (rfl) (Cells1.of_all rfl) hs (by first | rfl | assumption) (fun w hs => ?_) | refine WL.storeAll ty85 rfl rfl (rfl) (Cells1.of_all rfl) hs (by first | rfl | assumption) (fun w hs => ?_)
  refine WL.nil ?_
  refine ⟨rfl, ?_⟩
  refine AL.val 11 rfl (by kernel_rfl) rfl (fun w hs => run_assign) ?_
  refine AL.end (by kernel_rfl) (by first | exact hs | exact hs.tail) (by first | exact hs | exact hs.tail) ?_
  repeat (first | refine CW.seq ?_ | refine CW.block ?_ | refine CW.skip ?_ | refine CW.label ?_ | refine CW.exit ?_ | refine CW.condT rfl ?_ | refine CW.condF rfl ?_)
  refine CW.reg ?_
  refine WL.val rfl (run_move) ?_
  refine WL.nil ?_
  repeat (first | refine CW.seq ?_ | refine CW.block ?_ | refine CW.skip ?_ | refine CW.label ?_ | refine CW.exit ?_)
  first | refine CW.condP rfl (fun h => ?_) (fun h => ?_) | refine CW.cond rfl (fun h => ?_) (fun h => ?_)
  · repeat (first | refine CW.seq ?_ | refine CW.block ?_ | refine CW.skip ?_ | refine CW.label ?_ | refine CW.exit ?_ | refine CW.condT rfl ?_ | refine CW.condF rfl ?_)
    refine CW.quietT (l1 := [_, _, _, _, _, _, _, _, _, _]) (l2 := [_]) 10 rfl mixedP rfl (by kernel_rfl) hs ?_
    refine QL.val rfl (fun w hs => run_move) ?_
    refine QL.val rfl (fun w hs => run_nilCheck rfl) ?_
    refine QL.val rfl (fun w hs => run_field (o' := 2) Try.underlying83 rfl ty3 rfl rfl rfl) ?_
    refine QL.val rfl (fun w hs => run_load1 ty3 rfl (hs.c2 rfl)) ?_
    refine QL.val rfl (fun w hs => run_field (o' := 0) Try.underlying85 rfl ty22 rfl rfl rfl) ?_
    refine QL.val rfl (fun w hs => run_load1 ty22 rfl (hs.c0 (v := .slice a x.length c) rfl)) ?_
    refine QL.enter rfl (fun w => run_call en47 rfl rfl) (fun w hs => cost_spec _ (hv.step hs hO) hsz) ?_
    refine QL.val rfl (fun w hs => run_sub (c := ((used - (x.length + 32) : Nat) : Int)) rfl rfl (by omega) (by omega)) ?_
    refine QL.val rfl (fun w hs => run_nilCheck rfl) ?_
    refine QL.val rfl (fun w hs => run_field (o' := 2) Try.underlying83 rfl ty3 rfl rfl rfl) ?_
    refine QL.nil (fun w hs => ?_)
    first | refine WL.store1 ty3 rfl rfl (rfl) hs (by first | (simp; done) | omega | (simp only [List.length_append, List.length_replicate, List.length_cons, List.length_nil, List.length_set]; omega) | (simp [Ent.cells, u8s]; done) | exact Nat.le_of_ble_eq_true rfl) (fun w hs => ?_) | refine WL.store1_1 ty3 rfl rfl (rfl) hs (by first | (simp; done) | omega | (simp only [List.length_append, List.length_replicate, List.length_cons, List.length_nil, List.length_set]; omega) | (simp [Ent.cells, u8s]; done) | exact Nat.le_of_ble_eq_true rfl) (fun w hs => ?_) | refine WL.store1_2 ty3 rfl rfl (rfl) hs (by first | (simp; done) | omega | (simp only [List.length_append, List.length_replicate, List.length_cons, List.length_nil, List.length_set]; omega) | (simp [Ent.cells, u8s]; done) | exact Nat.le_of_ble_eq_true rfl) (fun w hs => ?_) | refine WL.store1_3 ty3 rfl rfl (rfl) hs (by first | (simp; done) | omega | (simp only [List.length_append, List.length_replicate, List.length_cons, List.length_nil, List.length_set]; omega) | (simp [Ent.cells, u8s]; done) | exact Nat.le_of_ble_eq_true rfl) (fun w hs => ?_) | refine WL.store1_4 ty3 rfl rfl (rfl) hs (by first | (simp; done) | omega | (simp only [List.length_append, List.length_replicate, List.length_cons, List.length_nil, List.length_set]; omega) | (simp [Ent.cells, u8s]; done) | exact Nat.le_of_ble_eq_true rfl) (fun w hs => ?_) | refine WL.store1 ty3 rfl rfl (rfl) hs (by first | (simp; done) | omega | (simp only [List.length_append, List.length_replicate, List.length_cons, List.length_nil, List.length_set]; omega) | (simp [Ent.cells, u8s]; done) | exact Nat.le_of_ble_eq_true rfl) (fun w hs => ?_)
    refine WL.nil ?_
    repeat (first | refine CW.seq ?_ | refine CW.block ?_ | refine CW.skip ?_ | refine CW.label ?_ | refine CW.exit ?_ | refine CW.condT rfl ?_ | refine CW.condF rfl ?_)
    refine CW.quietT (l1 := [_, _, _, _, _]) (l2 := [_]) 5 rfl mixedP rfl (by kernel_rfl) hs ?_
    refine QL.val rfl (fun w hs => run_move) ?_
    refine QL.val rfl (fun w hs => run_nilCheck rfl) ?_
    refine QL.val rfl (fun w hs => run_field (o' := 4) Try.underlying83 rfl ty81 rfl rfl rfl) ?_
    refine QL.val rfl (fun w hs => run_load1 ty81 rfl (hs.c2 (v := .map (some m)) rfl)) ?_
    refine QL.val rfl (fun w hs => run_loadN ty27 rfl hdl hs.a1) ?_
    refine QL.nil (fun w hs => ?_)
    refine WL.mapDel Try.underlying81 rfl rfl hM hd (hs.front [_, _, _]) (fun w hs => ?_)
    refine WL.nil ?_
    repeat (first | refine CW.seq ?_ | refine CW.block ?_ | refine CW.skip ?_ | refine CW.label ?_ | refine CW.exit ?_ | refine CW.condT rfl ?_ | refine CW.condF rfl ?_)
    refine CW.reg ?_
    refine WL.val rfl (run_move) ?_
    refine WL.val rfl (run_assign) ?_
    refine WL.nil ?_
    repeat (first | refine CW.seq ?_ | refine CW.block ?_ | refine CW.skip ?_ | refine CW.label ?_ | refine CW.exit ?_ | refine CW.condT rfl ?_ | refine CW.condF rfl ?_)
    refine CW.ret ?_
    refine fin_ret1 rfl ?_
    exact ⟨rfl, (hs.perm (L' := [_, _, _, _]) (List.perm_append_comm (l₁ := [_]) (l₂ := [_, _, _]))).dropL (L1 := [_, _])⟩
  · cases h
end
theorem cost_specN {a : Option Addr} {n c : Nat} (w0 : World) (hsz : n < 1099511627776) : Calls Try.prog 47 #[.slice a n c] w0 (Ret0 (.int .i64 ((n + 32 : Nat) : Int)) w0) := by
  have hs : Step [] [] w0 w0 := Step.refl w0
  refine calls (n := 6) Try.func47 rfl rfl rfl ?_
  repeat (first | refine CW.seq ?_ | refine CW.block ?_ | refine CW.skip ?_ | refine CW.label ?_ | refine CW.exit ?_ | refine CW.condT rfl ?_ | refine CW.condF rfl ?_)
  refine CW.reg ?_
  refine WL.val rfl (run_assign) ?_
  refine WL.nil ?_
  repeat (first | refine CW.seq ?_ | refine CW.block ?_ | refine CW.skip ?_ | refine CW.label ?_ | refine CW.exit ?_ | refine CW.condT rfl ?_ | refine CW.condF rfl ?_)
  refine CW.reg ?_
  refine WL.val rfl (run_move) ?_
  refine WL.val rfl (run_lenSl Try.underlying22 rfl) ?_
  refine WL.val rfl (run_add (c := ((n + 32 : Nat) : Int)) rfl rfl (by omega) (by omega)) ?_
  refine WL.val rfl (run_assign) ?_
  refine WL.nil ?_
  repeat (first | refine CW.seq ?_ | refine CW.block ?_ | refine CW.skip ?_ | refine CW.label ?_ | refine CW.exit ?_ | refine CW.condT rfl ?_ | refine CW.condF rfl ?_)
  refine CW.ret ?_
  refine fin_ret1 rfl ?_
  exact ⟨rfl, hs⟩
end Go.Gx
/-! Store9 -/
namespace Go.Gx
open Go.Proofs
set_option linter.unusedVariables false
set_option linter.unusedSimpArgs false
set_option maxRecDepth 100000
/-- The slice's block is none of these, or no byte is asked of it. -/
def OutE (v : Value) (y : List UInt8) (S : List Nat) : Prop := y = [] ∨ Outside v S
theorem Sl.stepE {S : List Nat} {L : List (Nat × Obj)} {w w' : World} {v : Value} {y : List UInt8} (h : Sl w 1 v y.length (u8s y)) (hs : Step S L w w') (hO : OutE v y S) : Sl w' 1 v y.length (u8s y) := by
  rcases hO with rfl | hO
  · obtain ⟨hl, h | ⟨b, off, c, rfl, h⟩⟩ := h
    · exact ⟨hl, .inl h⟩
    · exact ⟨hl, .inr ⟨b, off, c, rfl, At.nil⟩⟩
  · exact h.step hs hO
section
variable {bs k cap used last m gets puts clock st n c : Nat} {a : Option Addr} {M : List (List UInt8 × Value × Nat)} {d : List UInt8} {b : Bool}
/-- What lies under a digest: how many bytes it takes. -/
def wasC (o : Option Nat) : Nat := match o with | some n => n + 32 | none => 0
theorem bld_blob (a : Option Addr) (n c : Nat) (z : Int) (w : World) : (Instr.build 85 #[(0, .slice a n c), (1, .int .i64 z)]).run Try.prog w = .ok (.agg #[.slice a n c, .int .i64 z]) w := by kernel_rfl
theorem lay_full {y : List UInt8} {v : Value} (hne : bs ≠ m) (w0 : World) (hb : w0.heap[bs]? = some (blk 83 (stC k cap used last m gets puts))) (hm : w0.heap[m]? = some (mapObj M clock))
    (hM : Keys32 M) (hd : d.length = 32) (hu : ((findD d M 0).map (·.2)).getD zB = .agg #[.slice a n c, .int .i64 st]) (hb' : (findD d M 0).isSome = b)
    (hy : Sl w0 1 v y.length (u8s y)) (hsy : y.length < 1099511627776) (hsz : n < 1099511627776) (hus : used < 1099511627776) (hou : b = true → n + 32 ≤ used)
    (hf1 : b = true → cap < used + (y.length + 32) - (n + 32)) (hf0 : b = false → cap < used + (y.length + 32)) :
    Calls Try.prog 39 #[.pointer (some ⟨bs, 0, none⟩), .agg (u8s d).toArray, v] w0 (Ret0 (.int .i64 43) w0) := by
  have hs : Step [] [] w0 w0 := Step.refl w0
  have hat : At w0 bs 0 (stC k cap used last m gets puts) := At.of_blk hb
  have hdl : (u8s d).length = 32 := by rw [u8s, List.length_map, hd]
  have hc2 : ∀ w, Calls Try.prog 47 #[.slice a n c] w (Ret0 (.int .i64 ((n + 32 : Nat) : Int)) w) := fun w => cost_specN w hsz
  refine calls (n := 61) Try.func39 rfl rfl rfl ?_
  refine CW.seq ?_
  refine CW.reg ?_
  refine WL.box (cs := u8s d) rfl rfl rfl hs (fun b4 w hs => ?_)
  refine WL.val rfl (run_assign) ?_
  refine WL.nil ?_
  refine CW.seq ?_
  refine CW.quiet mixedP (by kernel_rfl) hs ?_
  refine QL.val rfl (fun w hs => run_move) ?_
  refine QL.val rfl (fun w hs => run_nilCheck rfl) ?_
  refine QL.val rfl (fun w hs => run_field (o' := 2) Try.underlying83 rfl ty3 rfl rfl rfl) ?_
  refine QL.val rfl (fun w hs => run_load1 ty3 rfl ((hat.step hs.clear (by simp)).cell (j := 2) rfl)) ?_
  refine QL.val rfl (fun w hs => run_move) ?_
  refine QL.enter rfl (fun w => run_call en47 rfl rfl) (fun w hs => cost_spec _ (hy.step0 hs.clear) hsy) ?_
  refine QL.val rfl (fun w hs => run_add (c := ((used + (y.length + 32) : Nat) : Int)) rfl rfl (by omega) (by omega)) ?_
  refine QL.val rfl (fun w hs => run_assign) ?_
  refine QL.nil (fun w hs => ?_)
  refine CW.seq <| CW.seq ?_
  refine CW.any (A := fun w => Step [] [(b4, blk 27 (u8s d))] w0 w) (C := fun w => Step [] [(b4, blk 27 (u8s d))] w0 w) 1000000 12 mixedP rfl ?_
  replace hs := hs.drew
  refine AL.val 0 rfl (by kernel_rfl) rfl (fun w hs => run_move) ?_
  refine AL.val 1 rfl (by kernel_rfl) rfl (fun w hs => run_nilCheck rfl) ?_
  refine AL.val 2 rfl (by kernel_rfl) rfl (fun w hs => run_field (o' := 4) Try.underlying83 rfl ty81 rfl rfl rfl) ?_
  refine AL.val 3 rfl (by kernel_rfl) rfl (fun w hs => run_load1 ty81 rfl ((hat.step hs.clear (by simp)).cell (j := 4) rfl)) ?_
  refine AL.val 4 rfl (by kernel_rfl) rfl (fun w hs => run_loadN ty27 rfl hdl hs.a0) ?_
  refine AL.val 5 rfl (by kernel_rfl) rfl (fun w hs => run_lookupE Try.underlying81 (zBlob _) hM hd hu hb' rfl rfl (hs.old hm (by simp))) ?_
  refine AL.val 6 rfl (by kernel_rfl) rfl (fun w hs => run_move) ?_
  refine AL.val 7 rfl (by kernel_rfl) rfl (fun w hs => run_extract rfl rfl) ?_
  refine AL.val 8 rfl (by kernel_rfl) rfl (fun w hs => run_extract rfl rfl) ?_
  refine AL.one 9 (by kernel_rfl) rfl (by first | exact hs | exact hs.tail) (by first | exact hs | exact hs.tail) ?_
  refine WL.alloc ty85 rfl hs (fun b8 w hs => ?_)
  refine WL.nil ?_
  refine ⟨rfl, ?_⟩
  refine AL.one 10 (by kernel_rfl) rfl (by first | exact hs | exact hs.tail) (by first | exact hs | exact hs.tail) ?_
  refine WL.storeAll ty85 rfl rfl (rfl) (Cells1.of_all rfl) hs (by first | rfl | assumption) (fun w hs => ?_)
  refine WL.nil ?_
  refine ⟨rfl, ?_⟩
  refine AL.val 11 rfl (by kernel_rfl) rfl (fun w hs => run_assign) ?_
  refine AL.end (by kernel_rfl) (by first | exact hs | exact hs.tail) (by first | exact hs | exact hs.tail) ?_
  refine CW.seq ?_
  refine CW.reg ?_
  refine WL.val rfl (run_move) ?_
  refine WL.nil ?_
  cases b
  · have hf0 := hf0 rfl
    refine CW.cond rfl (fun h => ?_) (fun h => ?_)
    · cases h
    · repeat (first | refine CW.seq ?_ | refine CW.skip ?_)
      refine CW.reg ?_
      refine WL.val rfl (run_move) ?_
      refine WL.val rfl (run_move) ?_
      refine WL.val rfl (run_nilCheck rfl) ?_
      refine WL.val rfl (run_field (o' := 1) Try.underlying83 rfl ty3 rfl rfl rfl) ?_
      refine WL.val rfl (run_load1 ty3 rfl ((hat.step hs.clear (by simp)).cell (j := 1) rfl)) ?_
      refine WL.val rfl (run_bT (run_gtr rfl rfl) (by omega)) ?_
      refine WL.nil ?_
      refine CW.cond rfl (fun h => ?_) (fun h => ?_)
      · refine CW.seq ?_
        refine CW.reg ?_
        refine WL.val rfl (run_assign) ?_
        refine WL.nil ?_
        refine CW.ret ?_
        refine fin_ret1 rfl ?_
        exact ⟨rfl, hs.clear⟩
      · cases h
  · have hf1 := hf1 rfl
    have hou := hou rfl
    refine CW.cond rfl (fun h => ?_) (fun h => ?_)
    · skip
      refine CW.reg ?_
      refine WL.val rfl (run_move) ?_
      refine WL.val rfl (run_field (o' := 0) Try.underlying85 rfl ty22 rfl rfl rfl) ?_
      refine WL.val rfl (run_load1 ty22 rfl (hs.c0 (v := .slice a n c) rfl)) ?_
      refine WL.enter rfl (run_call en47 rfl rfl) (hc2 _) ?_
      rintro e w ⟨rfl, hq⟩
      refine ⟨_, rfl, ?_⟩
      replace hs := hs.callE hq
      refine WL.val rfl (run_sub (c := ((used + (y.length + 32) - (n + 32) : Nat) : Int)) rfl rfl (by omega) (by omega)) ?_
      refine WL.val rfl (run_assign) ?_
      refine WL.nil ?_
      refine CW.seq <| CW.seq ?_
      refine CW.reg ?_
      refine WL.val rfl (run_move) ?_
      refine WL.val rfl (run_move) ?_
      refine WL.val rfl (run_nilCheck rfl) ?_
      refine WL.val rfl (run_field (o' := 1) Try.underlying83 rfl ty3 rfl rfl rfl) ?_
      refine WL.val rfl (run_load1 ty3 rfl ((hat.step hs.clear (by simp)).cell (j := 1) rfl)) ?_
      refine WL.val rfl (run_bT (run_gtr rfl rfl) (by omega)) ?_
      refine WL.nil ?_
      refine CW.cond rfl (fun h => ?_) (fun h => ?_)
      · refine CW.seq ?_
        refine CW.reg ?_
        refine WL.val rfl (run_assign) ?_
        refine WL.nil ?_
        refine CW.ret ?_
        refine fin_ret1 rfl ?_
        exact ⟨rfl, hs.clear⟩
      · cases h
    · cases h
theorem lay_ok {y : List UInt8} {v : Value} (hne : bs ≠ m) (w0 : World) (hb : w0.heap[bs]? = some (blk 83 (stC k cap used last m gets puts))) (hm : w0.heap[m]? = some (mapObj M clock))
    (hM : Keys32 M) (hd : d.length = 32) (hu : ((findD d M 0).map (·.2)).getD zB = .agg #[.slice a n c, .int .i64 st]) (hb' : (findD d M 0).isSome = b)
    (hy : Sl w0 1 v y.length (u8s y)) (hO : OutE v y [bs, m]) (hsy : y.length < 1099511627776) (hsz : n < 1099511627776) (hus : used < 1099511627776) (hlast : last < 1099511627776) (hou : b = true → n + 32 ≤ used)
    {used' : Nat} (hf1 : b = true → used' = used + (y.length + 32) - (n + 32)) (hf0 : b = false → used' = used + (y.length + 32)) (hcap : used' ≤ cap) :
    Calls Try.prog 39 #[.pointer (some ⟨bs, 0, none⟩), .agg (u8s d).toArray, v] w0 (fun e w' => ∃ v' Lv, e = .returned (.int .i64 0) ∧ OwnSl 5 1 v' y.length (u8s y) Lv ∧
      Step [bs, m] ((bs, blk 83 (stC k cap used' (last + 1) m gets puts)) :: (m, mapObj (putM d (.agg #[v', .int .i64 (last + 1 : Nat)]) clock M) (putC d clock M)) :: Lv) w0 w') := by
  have hs : Step [bs, m] [(bs, blk 83 (stC k cap used last m gets puts)), (m, mapObj M clock)] w0 w0 := Step.start (L := [(bs, blk 83 (stC k cap used last m gets puts)), (m, mapObj M clock)]) (by simpa using hne) (by intro p hp; simp at hp; rcases hp with rfl | rfl; exact hb; exact hm)
  have hdl : (u8s d).length = 32 := by rw [u8s, List.length_map, hd]
  have hc2 : ∀ w, Calls Try.prog 47 #[.slice a n c] w (Ret0 (.int .i64 ((n + 32 : Nat) : Int)) w) := fun w => cost_specN w hsz
  have hobt : ∃ u1 : Nat, u1 = used + (y.length + 32) := ⟨_, rfl⟩
  obtain ⟨u1, hu1⟩ := hobt
  refine calls (n := 61) Try.func39 rfl rfl rfl ?_
  refine CW.seq ?_
  refine CW.reg ?_
  refine WL.box (cs := u8s d) rfl rfl rfl hs (fun b4 w hs => ?_)
  refine WL.val rfl (run_assign) ?_
  refine WL.nil ?_
  refine CW.seq ?_
  refine CW.quiet mixedP (by kernel_rfl) hs ?_
  refine QL.val rfl (fun w hs => run_move) ?_
  refine QL.val rfl (fun w hs => run_nilCheck rfl) ?_
  refine QL.val rfl (fun w hs => run_field (o' := 2) Try.underlying83 rfl ty3 rfl rfl rfl) ?_
  refine QL.val rfl (fun w hs => run_load1 ty3 rfl (hs.c1 rfl)) ?_
  refine QL.val rfl (fun w hs => run_move) ?_
  refine QL.enter rfl (fun w => run_call en47 rfl rfl) (fun w hs => cost_spec _ (hy.stepE hs hO) hsy) ?_
  refine QL.val rfl (fun w hs => run_add (c := ((u1 : Nat) : Int)) rfl rfl (by omega) (by omega)) ?_
  refine QL.val rfl (fun w hs => run_assign) ?_
  refine QL.nil (fun w hs => ?_)
  refine CW.seq <| CW.seq ?_
  refine CW.any (A := fun w => Step [bs, m] [(b4, blk 27 (u8s d)), (bs, blk 83 (stC k cap used last m gets puts)), (m, mapObj M clock)] w0 w) (C := fun w => Step [bs, m] [(b4, blk 27 (u8s d)), (bs, blk 83 (stC k cap used last m gets puts)), (m, mapObj M clock)] w0 w) 1000000 12 mixedP rfl ?_
  replace hs := hs.drew
  refine AL.val 0 rfl (by kernel_rfl) rfl (fun w hs => run_move) ?_
  refine AL.val 1 rfl (by kernel_rfl) rfl (fun w hs => run_nilCheck rfl) ?_
  refine AL.val 2 rfl (by kernel_rfl) rfl (fun w hs => run_field (o' := 4) Try.underlying83 rfl ty81 rfl rfl rfl) ?_
  refine AL.val 3 rfl (by kernel_rfl) rfl (fun w hs => run_load1 ty81 rfl ((by first | exact hs.c1 rfl | exact hs.c2 rfl))) ?_
  refine AL.val 4 rfl (by kernel_rfl) rfl (fun w hs => run_loadN ty27 rfl hdl hs.a0) ?_
  refine AL.val 5 rfl (by kernel_rfl) rfl (fun w hs => run_lookupE Try.underlying81 (zBlob _) hM hd hu hb' rfl rfl (hs.get (o := mapObj M clock) (by simp))) ?_
  refine AL.val 6 rfl (by kernel_rfl) rfl (fun w hs => run_move) ?_
  refine AL.val 7 rfl (by kernel_rfl) rfl (fun w hs => run_extract rfl rfl) ?_
  refine AL.val 8 rfl (by kernel_rfl) rfl (fun w hs => run_extract rfl rfl) ?_
  refine AL.one 9 (by kernel_rfl) rfl (by first | exact hs | exact hs.tail) (by first | exact hs | exact hs.tail) ?_
  refine WL.alloc ty85 rfl hs (fun b8 w hs => ?_)
  refine WL.nil ?_
  refine ⟨rfl, ?_⟩
  refine AL.one 10 (by kernel_rfl) rfl (by first | exact hs | exact hs.tail) (by first | exact hs | exact hs.tail) ?_
  refine WL.storeAll ty85 rfl rfl (rfl) (Cells1.of_all rfl) hs (by first | rfl | assumption) (fun w hs => ?_)
  refine WL.nil ?_
  refine ⟨rfl, ?_⟩
  refine AL.val 11 rfl (by kernel_rfl) rfl (fun w hs => run_assign) ?_
  refine AL.end (by kernel_rfl) (by first | exact hs | exact hs.tail) (by first | exact hs | exact hs.tail) ?_
  refine CW.seq ?_
  refine CW.reg ?_
  refine WL.val rfl (run_move) ?_
  refine WL.nil ?_
  cases b
  · have hf0 := hf0 rfl
    obtain rfl : used' = u1 := by omega
    refine CW.cond rfl (fun h => ?_) (fun h => ?_)
    · cases h
    · repeat (first | refine CW.seq ?_ | refine CW.skip ?_)
      refine CW.reg ?_
      refine WL.val rfl (run_move) ?_
      refine WL.val rfl (run_move) ?_
      refine WL.val rfl (run_nilCheck rfl) ?_
      refine WL.val rfl (run_field (o' := 1) Try.underlying83 rfl ty3 rfl rfl rfl) ?_
      refine WL.val rfl (run_load1 ty3 rfl (hs.c2 rfl)) ?_
      refine WL.val rfl (run_bF (run_gtr rfl rfl) (by omega)) ?_
      refine WL.nil ?_
      refine CW.cond rfl (fun h => ?_) (fun h => ?_)
      · cases h
      · repeat (first | refine CW.seq ?_ | refine CW.skip ?_)
        refine CW.reg ?_
        refine WL.val rfl (run_move) ?_
        refine WL.val rfl (run_move) ?_
        refine WL.val rfl (run_nilCheck rfl) ?_
        refine WL.val rfl (run_field (o' := 2) Try.underlying83 rfl ty3 rfl rfl rfl) ?_
        refine WL.store1 ty3 rfl rfl (rfl) (hs.front [_, _]) (by first | (simp; done) | omega | (simp only [List.length_append, List.length_replicate, List.length_cons, List.length_nil, List.length_set]; omega) | (simp [Ent.cells, u8s]; done) | exact Nat.le_of_ble_eq_true rfl) (fun w hs => ?_)
        refine WL.nil ?_
        refine CW.seq ?_
        refine CW.reg ?_
        refine WL.val rfl (run_move) ?_
        refine WL.val rfl (run_nilCheck rfl) ?_
        refine WL.val rfl (run_field (o' := 3) Try.underlying83 rfl ty3 rfl rfl rfl) ?_
        refine WL.val rfl (run_load1 ty3 rfl (hs.c0 rfl)) ?_
        refine WL.val rfl (run_add (c := ((last + 1 : Nat) : Int)) rfl rfl (by omega) (by omega)) ?_
        refine WL.val rfl (run_nilCheck rfl) ?_
        refine WL.val rfl (run_field (o' := 3) Try.underlying83 rfl ty3 rfl rfl rfl) ?_
        refine WL.store1 ty3 rfl rfl (rfl) (hs) (by first | (simp; done) | omega | (simp only [List.length_append, List.length_replicate, List.length_cons, List.length_nil, List.length_set]; omega) | (simp [Ent.cells, u8s]; done) | exact Nat.le_of_ble_eq_true rfl) (fun w hs => ?_)
        refine WL.nil ?_
        replace hs := Step.perm (L' := [_, _, _, _]) hs ((List.perm_append_comm (l₁ := [_]) (l₂ := [_, _])).append_right [_])
        refine CW.seq ?_
        refine CW.any (A := fun w => Step [bs, m] [(b8, blk 85 [.slice a n c, .int .i64 (st : Nat)]), (b4, blk 27 (u8s d)), (bs, blk 83 (stC k cap used' (last + 1) m gets puts))] w0 w) (C := fun w => Step [bs, m] [(b8, blk 85 [.slice a n c, .int .i64 (st : Nat)]), (b4, blk 27 (u8s d)), (bs, blk 83 (stC k cap used' (last + 1) m gets puts)), (m, mapObj M clock)] w0 w) 12 13 mixedP rfl ?_
        replace hs := hs.drew
        refine AL.val 0 rfl (by kernel_rfl) rfl (fun w hs => run_move) ?_
        refine AL.val 1 rfl (by kernel_rfl) rfl (fun w hs => run_nilCheck rfl) ?_
        refine AL.val 2 rfl (by kernel_rfl) rfl (fun w hs => run_field (o' := 4) Try.underlying83 rfl ty81 rfl rfl rfl) ?_
        refine AL.val 3 rfl (by kernel_rfl) rfl (fun w hs => run_load1 ty81 rfl (hs.c2 (v := .map (some m)) rfl)) ?_
        refine AL.val 4 rfl (by kernel_rfl) rfl (fun w hs => run_loadN ty27 rfl hdl hs.a1) ?_
        refine AL.val 5 rfl (by kernel_rfl) rfl (fun w hs => run_move) ?_
        refine AL.val 7 rfl (by kernel_rfl) rfl (fun w hs => run_move) ?_
        refine AL.val 8 rfl (by kernel_rfl) rfl (fun w hs => run_nilCheck rfl) ?_
        refine AL.val 9 rfl (by kernel_rfl) rfl (fun w hs => run_field (o' := 3) Try.underlying83 rfl ty3 rfl rfl rfl) ?_
        refine AL.val 10 rfl (by kernel_rfl) rfl (fun w hs => run_load1 ty3 rfl (hs.c2 (v := .int .i64 (last + 1 : Nat)) rfl)) ?_
        refine AL.one 6 (by kernel_rfl) rfl (by first | exact Step.dropR (L1 := [_, _, _]) hs | exact Step.dropR (L1 := [_, _, _]) (hs.dropR (L1 := [_, _, _, _])) | exact Step.dropR (L1 := [_, _, _]) hs.tail) (by first | exact hs | exact hs.dropR (L1 := [_, _, _, _])) ?_
        refine WL.enter rfl (run_call en42 rfl rfl) (clone_spec _ (hy.stepE hs hO) (by omega)) ?_
        rintro e w ⟨v', Lv, rfl, hu', hq⟩
        refine ⟨_, rfl, ?_⟩
        obtain ⟨av, cv, rfl⟩ := hu'.form
        replace hs := (Step.call0 hs hq).append_comm
        refine WL.nil ?_
        refine ⟨rfl, ?_⟩
        refine AL.val 11 rfl (by kernel_rfl) rfl (fun w hs => run_build rfl (bld_blob _ _ _ _ _)) ?_
        refine AL.one 12 (by kernel_rfl) rfl (by first | exact Step.dropR (L1 := [_, _, _]) hs | exact Step.dropR (L1 := [_, _, _]) (hs.dropR (L1 := [_, _, _, _])) | exact Step.dropR (L1 := [_, _, _]) hs.tail) (by first | exact hs | exact hs.dropR (L1 := [_, _, _, _])) ?_
        refine WL.mapPut Try.underlying81 rfl rfl rfl hM hd (hs.front [_, _, _]) (fun w hs => ?_)
        refine WL.nil ?_
        refine ⟨rfl, ?_⟩
        refine AL.relax (by kernel_rfl) ?_
        refine AL.end (by kernel_rfl) (by first | exact Step.dropR (L1 := [_, _, _]) hs | exact Step.dropR (L1 := [_, _, _]) (hs.dropR (L1 := [_, _, _, _])) | exact Step.dropR (L1 := [_, _, _]) hs.tail) (trivial) ?_
        refine CW.seq ?_
        refine CW.reg ?_
        refine WL.val rfl (run_assign) ?_
        refine WL.nil ?_
        refine CW.ret ?_
        refine fin_ret1 rfl ?_
        refine ⟨_, Lv, rfl, hu', ?_⟩
        exact Step.append_comm (L1 := Lv) (L2 := [_, _]) (Step.dropL (L1 := [_, _]) (Step.append_comm (L1 := [_, _]) (L2 := _ :: _ :: Lv) (hs.front [_, _, _])))
  · have hf1 := hf1 rfl
    have hou := hou rfl
    refine CW.cond rfl (fun h => ?_) (fun h => ?_)
    · skip
      refine CW.reg ?_
      refine WL.val rfl (run_move) ?_
      refine WL.val rfl (run_field (o' := 0) Try.underlying85 rfl ty22 rfl rfl rfl) ?_
      refine WL.val rfl (run_load1 ty22 rfl (hs.c0 (v := .slice a n c) rfl)) ?_
      refine WL.enter rfl (run_call en47 rfl rfl) (hc2 _) ?_
      rintro e w ⟨rfl, hq⟩
      refine ⟨_, rfl, ?_⟩
      replace hs := hs.callE hq
      refine WL.val rfl (run_sub (c := ((used' : Nat) : Int)) rfl rfl (by omega) (by omega)) ?_
      refine WL.val rfl (run_assign) ?_
      refine WL.nil ?_
      refine CW.seq <| CW.seq ?_
      refine CW.reg ?_
      refine WL.val rfl (run_move) ?_
      refine WL.val rfl (run_move) ?_
      refine WL.val rfl (run_nilCheck rfl) ?_
      refine WL.val rfl (run_field (o' := 1) Try.underlying83 rfl ty3 rfl rfl rfl) ?_
      refine WL.val rfl (run_load1 ty3 rfl (hs.c2 rfl)) ?_
      refine WL.val rfl (run_bF (run_gtr rfl rfl) (by omega)) ?_
      refine WL.nil ?_
      refine CW.cond rfl (fun h => ?_) (fun h => ?_)
      · cases h
      · repeat (first | refine CW.seq ?_ | refine CW.skip ?_)
        refine CW.reg ?_
        refine WL.val rfl (run_move) ?_
        refine WL.val rfl (run_move) ?_
        refine WL.val rfl (run_nilCheck rfl) ?_
        refine WL.val rfl (run_field (o' := 2) Try.underlying83 rfl ty3 rfl rfl rfl) ?_
        refine WL.store1 ty3 rfl rfl (rfl) (hs.front [_, _]) (by first | (simp; done) | omega | (simp only [List.length_append, List.length_replicate, List.length_cons, List.length_nil, List.length_set]; omega) | (simp [Ent.cells, u8s]; done) | exact Nat.le_of_ble_eq_true rfl) (fun w hs => ?_)
        refine WL.nil ?_
        refine CW.seq ?_
        refine CW.reg ?_
        refine WL.val rfl (run_move) ?_
        refine WL.val rfl (run_nilCheck rfl) ?_
        refine WL.val rfl (run_field (o' := 3) Try.underlying83 rfl ty3 rfl rfl rfl) ?_
        refine WL.val rfl (run_load1 ty3 rfl (hs.c0 rfl)) ?_
        refine WL.val rfl (run_add (c := ((last + 1 : Nat) : Int)) rfl rfl (by omega) (by omega)) ?_
        refine WL.val rfl (run_nilCheck rfl) ?_
        refine WL.val rfl (run_field (o' := 3) Try.underlying83 rfl ty3 rfl rfl rfl) ?_
        refine WL.store1 ty3 rfl rfl (rfl) (hs) (by first | (simp; done) | omega | (simp only [List.length_append, List.length_replicate, List.length_cons, List.length_nil, List.length_set]; omega) | (simp [Ent.cells, u8s]; done) | exact Nat.le_of_ble_eq_true rfl) (fun w hs => ?_)
        refine WL.nil ?_
        replace hs := Step.perm (L' := [_, _, _, _]) hs ((List.perm_append_comm (l₁ := [_]) (l₂ := [_, _])).append_right [_])
        refine CW.seq ?_
        refine CW.any (A := fun w => Step [bs, m] [(b8, blk 85 [.slice a n c, .int .i64 (st : Nat)]), (b4, blk 27 (u8s d)), (bs, blk 83 (stC k cap used' (last + 1) m gets puts))] w0 w) (C := fun w => Step [bs, m] [(b8, blk 85 [.slice a n c, .int .i64 (st : Nat)]), (b4, blk 27 (u8s d)), (bs, blk 83 (stC k cap used' (last + 1) m gets puts)), (m, mapObj M clock)] w0 w) 12 13 mixedP rfl ?_
        replace hs := hs.drew
        refine AL.val 0 rfl (by kernel_rfl) rfl (fun w hs => run_move) ?_
        refine AL.val 1 rfl (by kernel_rfl) rfl (fun w hs => run_nilCheck rfl) ?_
        refine AL.val 2 rfl (by kernel_rfl) rfl (fun w hs => run_field (o' := 4) Try.underlying83 rfl ty81 rfl rfl rfl) ?_
        refine AL.val 3 rfl (by kernel_rfl) rfl (fun w hs => run_load1 ty81 rfl (hs.c2 (v := .map (some m)) rfl)) ?_
        refine AL.val 4 rfl (by kernel_rfl) rfl (fun w hs => run_loadN ty27 rfl hdl hs.a1) ?_
        refine AL.val 5 rfl (by kernel_rfl) rfl (fun w hs => run_move) ?_
        refine AL.val 7 rfl (by kernel_rfl) rfl (fun w hs => run_move) ?_
        refine AL.val 8 rfl (by kernel_rfl) rfl (fun w hs => run_nilCheck rfl) ?_
        refine AL.val 9 rfl (by kernel_rfl) rfl (fun w hs => run_field (o' := 3) Try.underlying83 rfl ty3 rfl rfl rfl) ?_
        refine AL.val 10 rfl (by kernel_rfl) rfl (fun w hs => run_load1 ty3 rfl (hs.c2 (v := .int .i64 (last + 1 : Nat)) rfl)) ?_
        refine AL.one 6 (by kernel_rfl) rfl (by first | exact Step.dropR (L1 := [_, _, _]) hs | exact Step.dropR (L1 := [_, _, _]) (hs.dropR (L1 := [_, _, _, _])) | exact Step.dropR (L1 := [_, _, _]) hs.tail) (by first | exact hs | exact hs.dropR (L1 := [_, _, _, _])) ?_
        refine WL.enter rfl (run_call en42 rfl rfl) (clone_spec _ (hy.stepE hs hO) (by omega)) ?_
        rintro e w ⟨v', Lv, rfl, hu', hq⟩
        refine ⟨_, rfl, ?_⟩
        obtain ⟨av, cv, rfl⟩ := hu'.form
        replace hs := (Step.call0 hs hq).append_comm
        refine WL.nil ?_
        refine ⟨rfl, ?_⟩
        refine AL.val 11 rfl (by kernel_rfl) rfl (fun w hs => run_build rfl (bld_blob _ _ _ _ _)) ?_
        refine AL.one 12 (by kernel_rfl) rfl (by first | exact Step.dropR (L1 := [_, _, _]) hs | exact Step.dropR (L1 := [_, _, _]) (hs.dropR (L1 := [_, _, _, _])) | exact Step.dropR (L1 := [_, _, _]) hs.tail) (by first | exact hs | exact hs.dropR (L1 := [_, _, _, _])) ?_
        refine WL.mapPut Try.underlying81 rfl rfl rfl hM hd (hs.front [_, _, _]) (fun w hs => ?_)
        refine WL.nil ?_
        refine ⟨rfl, ?_⟩
        refine AL.relax (by kernel_rfl) ?_
        refine AL.end (by kernel_rfl) (by first | exact Step.dropR (L1 := [_, _, _]) hs | exact Step.dropR (L1 := [_, _, _]) (hs.dropR (L1 := [_, _, _, _])) | exact Step.dropR (L1 := [_, _, _]) hs.tail) (trivial) ?_
        refine CW.seq ?_
        refine CW.reg ?_
        refine WL.val rfl (run_assign) ?_
        refine WL.nil ?_
        refine CW.ret ?_
        refine fin_ret1 rfl ?_
        refine ⟨_, Lv, rfl, hu', ?_⟩
        exact Step.append_comm (L1 := Lv) (L2 := [_, _]) (Step.dropL (L1 := [_, _]) (Step.append_comm (L1 := [_, _]) (L2 := _ :: _ :: Lv) (hs.front [_, _, _])))
    · cases h
end
end Go.Gx
/-! Store10 -/
namespace Go.Gx
open Go.Proofs
set_option linter.unusedVariables false
set_option linter.unusedSimpArgs false
set_option maxRecDepth 100000
attribute [local irreducible] shaL cutD frontL
section
variable {bs k cap used last m gets puts clock st n c : Nat} {a : Option Addr} {M : List (List UInt8 × Value × Nat)} {d : List UInt8} {b : Bool} {y : List UInt8} {v : Value}
theorem put_long (hne : bs ≠ m) (w0 : World) (hb : w0.heap[bs]? = some (blk 83 (stC k cap used last m gets puts))) (hm : w0.heap[m]? = some (mapObj M clock))
    (hy : Sl w0 1 v y.length (u8s y)) (hp : puts < 1099511627776) (hlong : 1048576 < y.length) :
    Calls Try.prog 12 #[.pointer (some ⟨bs, 0, none⟩), v] w0 (fun e w' => e = .returned (.tuple #[.agg (u8s zD).toArray, .int .i64 2]) ∧ Step [bs, m] [(bs, blk 83 (stC k cap used last m gets (puts + 1))), (m, mapObj M clock)] w0 w') := by
  have hs : Step [bs, m] [(bs, blk 83 (stC k cap used last m gets puts)), (m, mapObj M clock)] w0 w0 := Step.start (L := [(bs, blk 83 (stC k cap used last m gets puts)), (m, mapObj M clock)]) (by simpa using hne) (by intro p hp; simp at hp; rcases hp with rfl | rfl; exact hb; exact hm)
  have hobt := Sl.form hy
  obtain ⟨av, cv, rfl⟩ := hobt
  refine calls (n := 64) Try.func12 rfl rfl rfl ?_
  refine CW.seq ?_
  refine CW.reg ?_
  refine WL.alloc ty27 rfl hs (fun b4 w hs => ?_)
  refine WL.val rfl (run_assign) ?_
  refine WL.nil ?_
  refine CW.seq ?_
  refine CW.reg ?_
  refine WL.val rfl (run_move) ?_
  refine WL.val rfl (run_nilCheck rfl) ?_
  refine WL.val rfl (run_field (o' := 5) Try.underlying83 rfl ty66 rfl rfl rfl) ?_
  refine WL.val rfl (run_field (o' := 1) Try.underlying66 rfl ty3 rfl rfl rfl) ?_
  refine WL.val rfl (run_load1 ty3 rfl (hs.c1 (v := .int .i64 (puts : Nat)) rfl)) ?_
  refine WL.val rfl (run_add (c := ((puts + 1 : Nat) : Int)) rfl rfl (by omega) (by omega)) ?_
  refine WL.val rfl (run_nilCheck rfl) ?_
  refine WL.val rfl (run_field (o' := 5) Try.underlying83 rfl ty66 rfl rfl rfl) ?_
  refine WL.val rfl (run_field (o' := 1) Try.underlying66 rfl ty3 rfl rfl rfl) ?_
  refine WL.store1 ty3 rfl rfl (rfl) (hs.swap) (by first | (simp; done) | omega | (simp only [List.length_append, List.length_replicate, List.length_cons, List.length_nil, List.length_set]; omega) | (simp [Ent.cells, u8s]; done) | exact Nat.le_of_ble_eq_true rfl) (fun w hs => ?_)
  refine WL.nil ?_
  replace hs : Step [bs, m] [(bs, blk 83 (stC k cap used last m gets (puts + 1))), (b4, blk 27 (u8s zD)), (m, mapObj M clock)] w0 w := hs
  refine CW.seq <| CW.seq ?_
  refine CW.reg ?_
  refine WL.val rfl (run_move) ?_
  refine WL.val rfl (run_lenSl Try.underlying22 rfl) ?_
  refine WL.val rfl (run_bT (run_gtr rfl rfl) (by omega)) ?_
  refine WL.nil ?_
  refine CW.cond rfl (fun h => ?_) (fun h => ?_)
  · refine CW.seq ?_
    refine CW.reg ?_
    refine WL.val rfl (run_build rfl ((bld_dig _))) ?_
    refine WL.storeAll ty27 rfl rfl ((by rfl)) (Cells1.u8s _) (hs.swap) rfl (fun w hs => ?_)
    refine WL.val rfl (run_assign) ?_
    refine WL.nil ?_
    refine CW.ret ?_
    refine fin_cellTmp rfl rfl (run_loadVarN ty27 (by first | rfl | assumption | (simp; done)) hs.a0) ?_
    exact ⟨rfl, hs.tail⟩
  · cases h
theorem put_same {x : List UInt8} (hne : bs ≠ m) (w0 : World) (hb : w0.heap[bs]? = some (blk 83 (stC k cap used last m gets puts))) (hm : w0.heap[m]? = some (mapObj M clock))
    (hM : Keys32 M) (hu : ((findD (frontL y k) M 0).map (·.2)).getD zB = .agg #[.slice a x.length c, .int .i64 st]) (hb' : (findD (frontL y k) M 0).isSome = true) (hx : Sl w0 1 (.slice a x.length c) x.length (u8s x)) (hxO : Outside (.slice a x.length c) [bs, m])
    (hy : Sl w0 1 v y.length (u8s y)) (hO : OutE v y [bs, m]) (hcp : Room v) (hp : puts < 1099511627776) (hsy : y.length < 1099511627776) (hshort : y.length ≤ 1048576) (hk1 : 1 ≤ k) (hk : k ≤ 32) (hxy : x = y) :
    Calls Try.prog 12 #[.pointer (some ⟨bs, 0, none⟩), v] w0 (fun e w' => e = .returned (.tuple #[.agg (u8s (frontL y k)).toArray, .int .i64 0]) ∧ Step [bs, m] [(bs, blk 83 (stC k cap used last m gets (puts + 1))), (m, mapObj M clock)] w0 w') := by
  have hdl : (u8s (frontL y k)).length = 32 := by rw [u8s, List.length_map, frontL_len hk]
  have hd := frontL_len (x := y) hk
  have hs : Step [bs, m] [(bs, blk 83 (stC k cap used last m gets puts)), (m, mapObj M clock)] w0 w0 := Step.start (L := [(bs, blk 83 (stC k cap used last m gets puts)), (m, mapObj M clock)]) (by simpa using hne) (by intro p hp; simp at hp; rcases hp with rfl | rfl; exact hb; exact hm)
  have hobt := Sl.form hy
  obtain ⟨av, cv, rfl⟩ := hobt
  refine calls (n := 64) Try.func12 rfl rfl rfl ?_
  refine CW.seq ?_
  refine CW.reg ?_
  refine WL.alloc ty27 rfl hs (fun b4 w hs => ?_)
  refine WL.val rfl (run_assign) ?_
  refine WL.nil ?_
  refine CW.seq ?_
  refine CW.reg ?_
  refine WL.val rfl (run_move) ?_
  refine WL.val rfl (run_nilCheck rfl) ?_
  refine WL.val rfl (run_field (o' := 5) Try.underlying83 rfl ty66 rfl rfl rfl) ?_
  refine WL.val rfl (run_field (o' := 1) Try.underlying66 rfl ty3 rfl rfl rfl) ?_
  refine WL.val rfl (run_load1 ty3 rfl (hs.c1 (v := .int .i64 (puts : Nat)) rfl)) ?_
  refine WL.val rfl (run_add (c := ((puts + 1 : Nat) : Int)) rfl rfl (by omega) (by omega)) ?_
  refine WL.val rfl (run_nilCheck rfl) ?_
  refine WL.val rfl (run_field (o' := 5) Try.underlying83 rfl ty66 rfl rfl rfl) ?_
  refine WL.val rfl (run_field (o' := 1) Try.underlying66 rfl ty3 rfl rfl rfl) ?_
  refine WL.store1 ty3 rfl rfl (rfl) (hs.swap) (by first | (simp; done) | omega | (simp only [List.length_append, List.length_replicate, List.length_cons, List.length_nil, List.length_set]; omega) | (simp [Ent.cells, u8s]; done) | exact Nat.le_of_ble_eq_true rfl) (fun w hs => ?_)
  refine WL.nil ?_
  replace hs : Step [bs, m] [(bs, blk 83 (stC k cap used last m gets (puts + 1))), (b4, blk 27 (u8s zD)), (m, mapObj M clock)] w0 w := hs
  refine CW.seq <| CW.seq ?_
  refine CW.reg ?_
  refine WL.val rfl (run_move) ?_
  refine WL.val rfl (run_lenSl Try.underlying22 rfl) ?_
  refine WL.val rfl (run_bF (run_gtr rfl rfl) (by omega)) ?_
  refine WL.nil ?_
  refine CW.cond rfl (fun h => ?_) (fun h => ?_)
  · cases h
  repeat (first | refine CW.seq ?_ | refine CW.skip ?_)
  refine CW.reg ?_
  refine WL.val rfl (run_move) ?_
  refine WL.val rfl (run_move) ?_
  refine WL.enter rfl (run_call en25 rfl rfl) (digest_spec _ (hs.c0 rfl) (hy.stepE hs hO) hcp hsy hk1 hk) ?_
  rintro e w ⟨rfl, hq⟩
  refine ⟨_, rfl, ?_⟩
  replace hs := hs.callE hq
  refine WL.alloc ty27 rfl hs (fun b6 w hs => ?_)
  refine WL.storeAll ty27 rfl rfl ((hdl)) (Cells1.u8s _) hs (by first | rfl | assumption) (fun w hs => ?_)
  refine WL.nil ?_
  refine CW.seq <| CW.seq ?_
  refine CW.any (A := fun w => Step [bs, m] [(b6, blk 27 (u8s (frontL y k))), (bs, blk 83 (stC k cap used last m gets (puts + 1))), (b4, blk 27 (u8s zD)), (m, mapObj M clock)] w0 w) (C := fun w => Step [bs, m] [(b6, blk 27 (u8s (frontL y k))), (bs, blk 83 (stC k cap used last m gets (puts + 1))), (b4, blk 27 (u8s zD)), (m, mapObj M clock)] w0 w) 1000000 12 mixedP rfl ?_
  replace hs := hs.drew
  refine AL.val 0 rfl (by kernel_rfl) rfl (fun w hs => run_move) ?_
  refine AL.val 1 rfl (by kernel_rfl) rfl (fun w hs => run_nilCheck rfl) ?_
  refine AL.val 2 rfl (by kernel_rfl) rfl (fun w hs => run_field (o' := 4) Try.underlying83 rfl ty81 rfl rfl rfl) ?_
  refine AL.val 3 rfl (by kernel_rfl) rfl (fun w hs => run_load1 ty81 rfl ((by first | exact hs.c1 rfl | exact hs.c2 rfl))) ?_
  refine AL.val 4 rfl (by kernel_rfl) rfl (fun w hs => run_loadN ty27 rfl hdl (by first | exact hs.a0 | exact hs.a1)) ?_
  refine AL.val 5 rfl (by kernel_rfl) rfl (fun w hs => run_lookupE Try.underlying81 (zBlob _) hM hd hu hb' rfl rfl (hs.get (o := mapObj M clock) (by simp))) ?_
  refine AL.val 6 rfl (by kernel_rfl) rfl (fun w hs => run_move) ?_
  refine AL.val 7 rfl (by kernel_rfl) rfl (fun w hs => run_extract rfl rfl) ?_
  refine AL.val 8 rfl (by kernel_rfl) rfl (fun w hs => run_extract rfl rfl) ?_
  refine AL.one 9 (by kernel_rfl) rfl (by first | exact hs | exact hs.tail) (by first | exact hs | exact hs.tail) ?_
  refine WL.alloc ty85 rfl hs (fun b7 w hs => ?_)
  refine WL.nil ?_
  refine ⟨rfl, ?_⟩
  refine AL.one 10 (by kernel_rfl) rfl (by first | exact hs | exact hs.tail) (by first | exact hs | exact hs.tail) ?_
  refine WL.storeAll ty85 rfl rfl (rfl) (Cells1.of_all rfl) hs (by first | rfl | assumption) (fun w hs => ?_)
  refine WL.nil ?_
  refine ⟨rfl, ?_⟩
  refine AL.val 11 rfl (by kernel_rfl) rfl (fun w hs => run_assign) ?_
  refine AL.end (by kernel_rfl) (by first | exact hs | exact hs.tail) (by first | exact hs | exact hs.tail) ?_
  repeat (first | refine CW.seq ?_ | refine CW.block ?_)
  refine CW.reg ?_
  refine WL.val rfl (run_move) ?_
  refine WL.val rfl (run_move) ?_
  refine WL.yes rfl rfl rfl ?_; refine WL.val rfl (run_field (o' := 0) Try.underlying85 rfl ty22 rfl rfl rfl) ?_
  refine WL.yes rfl rfl rfl ?_
  refine WL.val rfl (run_load1 ty22 rfl (hs.c0 (v := .slice a x.length c) rfl)) ?_
  refine WL.yes rfl rfl rfl ?_; refine WL.val rfl (run_move) ?_
  refine WL.yes rfl rfl rfl ?_
  refine WL.enter rfl (run_call en38 rfl rfl) (equal_spec _ (hx.step hs hxO) (hy.stepE hs hO)) ?_
  rintro e w ⟨rfl, hq⟩
  refine ⟨_, rfl, ?_⟩
  replace hs := hs.callE hq
  refine WL.val rfl (run_pickT rfl) ?_
  refine WL.val rfl (run_assign) ?_
  refine WL.nil ?_
  refine CW.condP rfl (fun h => ?_) (fun h => ?_)
  · refine CW.seq ?_
    refine CW.reg ?_
    refine WL.val rfl (run_loadN ty27 rfl hdl hs.a1) ?_
    refine WL.storeAll ty27 rfl rfl (hdl) (Cells1.u8s _) (hs.front [_, _, _]) rfl (fun w hs => ?_)
    refine WL.val rfl (run_assign) ?_
    refine WL.nil ?_
    refine CW.ret ?_
    refine fin_cellTmp rfl rfl (run_loadVarN ty27 (by first | rfl | assumption | (simp; done)) hs.a0) ?_
    exact ⟨rfl, hs.tail.tail.tail⟩
  · exact absurd hxy h
theorem put_clash {x : List UInt8} (hne : bs ≠ m) (w0 : World) (hb : w0.heap[bs]? = some (blk 83 (stC k cap used last m gets puts))) (hm : w0.heap[m]? = some (mapObj M clock))
    (hM : Keys32 M) (hu : ((findD (frontL y k) M 0).map (·.2)).getD zB = .agg #[.slice a x.length c, .int .i64 st]) (hb' : (findD (frontL y k) M 0).isSome = true) (hx : Sl w0 1 (.slice a x.length c) x.length (u8s x)) (hxO : Outside (.slice a x.length c) [bs, m]) (hxr : Room (.slice a x.length c)) (hsx : x.length < 1099511627776)
    (hy : Sl w0 1 v y.length (u8s y)) (hO : OutE v y [bs, m]) (hcp : Room v) (hp : puts < 1099511627776) (hsy : y.length < 1099511627776) (hshort : y.length ≤ 1048576) (hk1 : 1 ≤ k) (hk : k ≤ 32) (hxy : x ≠ y) (hcl : frontL x k = frontL y k) :
    Calls Try.prog 12 #[.pointer (some ⟨bs, 0, none⟩), v] w0 (fun e w' => e = .returned (.tuple #[.agg (u8s zD).toArray, .int .i64 44]) ∧ Step [bs, m] [(bs, blk 83 (stC k cap used last m gets (puts + 1))), (m, mapObj M clock)] w0 w') := by
  have hdl : (u8s (frontL y k)).length = 32 := by rw [u8s, List.length_map, frontL_len hk]
  have hd := frontL_len (x := y) hk
  have hs : Step [bs, m] [(bs, blk 83 (stC k cap used last m gets puts)), (m, mapObj M clock)] w0 w0 := Step.start (L := [(bs, blk 83 (stC k cap used last m gets puts)), (m, mapObj M clock)]) (by simpa using hne) (by intro p hp; simp at hp; rcases hp with rfl | rfl; exact hb; exact hm)
  have hobt := Sl.form hy
  obtain ⟨av, cv, rfl⟩ := hobt
  refine calls (n := 64) Try.func12 rfl rfl rfl ?_
  refine CW.seq ?_
  refine CW.reg ?_
  refine WL.alloc ty27 rfl hs (fun b4 w hs => ?_)
  refine WL.val rfl (run_assign) ?_
  refine WL.nil ?_
  refine CW.seq ?_
  refine CW.reg ?_
  refine WL.val rfl (run_move) ?_
  refine WL.val rfl (run_nilCheck rfl) ?_
  refine WL.val rfl (run_field (o' := 5) Try.underlying83 rfl ty66 rfl rfl rfl) ?_
  refine WL.val rfl (run_field (o' := 1) Try.underlying66 rfl ty3 rfl rfl rfl) ?_
  refine WL.val rfl (run_load1 ty3 rfl (hs.c1 (v := .int .i64 (puts : Nat)) rfl)) ?_
  refine WL.val rfl (run_add (c := ((puts + 1 : Nat) : Int)) rfl rfl (by omega) (by omega)) ?_
  refine WL.val rfl (run_nilCheck rfl) ?_
  refine WL.val rfl (run_field (o' := 5) Try.underlying83 rfl ty66 rfl rfl rfl) ?_
  refine WL.val rfl (run_field (o' := 1) Try.underlying66 rfl ty3 rfl rfl rfl) ?_
  refine WL.store1 ty3 rfl rfl (rfl) (hs.swap) (by first | (simp; done) | omega | (simp only [List.length_append, List.length_replicate, List.length_cons, List.length_nil, List.length_set]; omega) | (simp [Ent.cells, u8s]; done) | exact Nat.le_of_ble_eq_true rfl) (fun w hs => ?_)
  refine WL.nil ?_
  replace hs : Step [bs, m] [(bs, blk 83 (stC k cap used last m gets (puts + 1))), (b4, blk 27 (u8s zD)), (m, mapObj M clock)] w0 w := hs
  refine CW.seq <| CW.seq ?_
  refine CW.reg ?_
  refine WL.val rfl (run_move) ?_
  refine WL.val rfl (run_lenSl Try.underlying22 rfl) ?_
  refine WL.val rfl (run_bF (run_gtr rfl rfl) (by omega)) ?_
  refine WL.nil ?_
  refine CW.cond rfl (fun h => ?_) (fun h => ?_)
  · cases h
  repeat (first | refine CW.seq ?_ | refine CW.skip ?_)
  refine CW.reg ?_
  refine WL.val rfl (run_move) ?_
  refine WL.val rfl (run_move) ?_
  refine WL.enter rfl (run_call en25 rfl rfl) (digest_spec _ (hs.c0 rfl) (hy.stepE hs hO) hcp hsy hk1 hk) ?_
  rintro e w ⟨rfl, hq⟩
  refine ⟨_, rfl, ?_⟩
  replace hs := hs.callE hq
  refine WL.alloc ty27 rfl hs (fun b6 w hs => ?_)
  refine WL.storeAll ty27 rfl rfl ((hdl)) (Cells1.u8s _) hs (by first | rfl | assumption) (fun w hs => ?_)
  refine WL.nil ?_
  refine CW.seq <| CW.seq ?_
  refine CW.any (A := fun w => Step [bs, m] [(b6, blk 27 (u8s (frontL y k))), (bs, blk 83 (stC k cap used last m gets (puts + 1))), (b4, blk 27 (u8s zD)), (m, mapObj M clock)] w0 w) (C := fun w => Step [bs, m] [(b6, blk 27 (u8s (frontL y k))), (bs, blk 83 (stC k cap used last m gets (puts + 1))), (b4, blk 27 (u8s zD)), (m, mapObj M clock)] w0 w) 1000000 12 mixedP rfl ?_
  replace hs := hs.drew
  refine AL.val 0 rfl (by kernel_rfl) rfl (fun w hs => run_move) ?_
  refine AL.val 1 rfl (by kernel_rfl) rfl (fun w hs => run_nilCheck rfl) ?_
  refine AL.val 2 rfl (by kernel_rfl) rfl (fun w hs => run_field (o' := 4) Try.underlying83 rfl ty81 rfl rfl rfl) ?_
  refine AL.val 3 rfl (by kernel_rfl) rfl (fun w hs => run_load1 ty81 rfl ((by first | exact hs.c1 rfl | exact hs.c2 rfl))) ?_
  refine AL.val 4 rfl (by kernel_rfl) rfl (fun w hs => run_loadN ty27 rfl hdl (by first | exact hs.a0 | exact hs.a1)) ?_
  refine AL.val 5 rfl (by kernel_rfl) rfl (fun w hs => run_lookupE Try.underlying81 (zBlob _) hM hd hu hb' rfl rfl (hs.get (o := mapObj M clock) (by simp))) ?_
  refine AL.val 6 rfl (by kernel_rfl) rfl (fun w hs => run_move) ?_
  refine AL.val 7 rfl (by kernel_rfl) rfl (fun w hs => run_extract rfl rfl) ?_
  refine AL.val 8 rfl (by kernel_rfl) rfl (fun w hs => run_extract rfl rfl) ?_
  refine AL.one 9 (by kernel_rfl) rfl (by first | exact hs | exact hs.tail) (by first | exact hs | exact hs.tail) ?_
  refine WL.alloc ty85 rfl hs (fun b7 w hs => ?_)
  refine WL.nil ?_
  refine ⟨rfl, ?_⟩
  refine AL.one 10 (by kernel_rfl) rfl (by first | exact hs | exact hs.tail) (by first | exact hs | exact hs.tail) ?_
  refine WL.storeAll ty85 rfl rfl (rfl) (Cells1.of_all rfl) hs (by first | rfl | assumption) (fun w hs => ?_)
  refine WL.nil ?_
  refine ⟨rfl, ?_⟩
  refine AL.val 11 rfl (by kernel_rfl) rfl (fun w hs => run_assign) ?_
  refine AL.end (by kernel_rfl) (by first | exact hs | exact hs.tail) (by first | exact hs | exact hs.tail) ?_
  repeat (first | refine CW.seq ?_ | refine CW.block ?_)
  refine CW.reg ?_
  refine WL.val rfl (run_move) ?_
  refine WL.val rfl (run_move) ?_
  refine WL.yes rfl rfl rfl ?_; refine WL.val rfl (run_field (o' := 0) Try.underlying85 rfl ty22 rfl rfl rfl) ?_
  refine WL.yes rfl rfl rfl ?_
  refine WL.val rfl (run_load1 ty22 rfl (hs.c0 (v := .slice a x.length c) rfl)) ?_
  refine WL.yes rfl rfl rfl ?_; refine WL.val rfl (run_move) ?_
  refine WL.yes rfl rfl rfl ?_
  refine WL.enter rfl (run_call en38 rfl rfl) (equal_spec _ (hx.step hs hxO) (hy.stepE hs hO)) ?_
  rintro e w ⟨rfl, hq⟩
  refine ⟨_, rfl, ?_⟩
  replace hs := hs.callE hq
  refine WL.val rfl (run_pickT rfl) ?_
  refine WL.val rfl (run_assign) ?_
  refine WL.nil ?_
  refine CW.condP rfl (fun h => ?_) (fun h => ?_)
  · exact absurd h hxy
  · refine CW.seq ?_
    refine CW.quiet mixedP (by kernel_rfl) hs ?_
    refine QL.val rfl (fun w hs => run_move) ?_
    refine QL.val rfl (fun w hs => run_move) ?_
    refine QL.yes rfl rfl rfl ?_; refine QL.val rfl (fun w hs => run_move) ?_
    refine QL.yes rfl rfl rfl ?_; refine QL.val rfl (fun w hs => run_field (o' := 0) Try.underlying85 rfl ty22 rfl rfl rfl) ?_
    refine QL.yes rfl rfl rfl ?_
    refine QL.val rfl (fun w hs => run_load1 ty22 rfl (hs.c0 (v := .slice a x.length c) rfl)) ?_
    refine QL.yes rfl rfl rfl ?_
    refine QL.enter rfl (fun w => run_call en25 rfl rfl) (fun w hs => digest_spec _ (hs.c2 rfl) (hx.step hs hxO) hxr hsx hk1 hk) ?_
    refine QL.yes rfl rfl rfl ?_
    refine QL.val rfl (fun w hs => run_loadN ty27 rfl hdl hs.a1) ?_
    refine QL.yes rfl rfl rfl ?_
    refine QL.val rfl (fun w hs => run_eqDig (frontL_len hk) hd rfl rfl) ?_
    refine QL.val rfl (fun w hs => run_pickT rfl) ?_
    refine QL.val rfl (fun w hs => run_assign) ?_
    refine QL.nil (fun w hs => ?_)
    refine CW.condP rfl (fun h => ?_) (fun h => ?_)
    · refine CW.seq ?_
      refine CW.reg ?_
      refine WL.val rfl (run_build rfl ((bld_dig _))) ?_
      refine WL.storeAll ty27 rfl rfl ((by rfl)) (Cells1.u8s _) (hs.front [_, _, _]) rfl (fun w hs => ?_)
      refine WL.val rfl (run_assign) ?_
      refine WL.nil ?_
      refine CW.ret ?_
      refine fin_cellTmp rfl rfl (run_loadVarN ty27 (by first | rfl | assumption | (simp; done)) hs.a0) ?_
      exact ⟨rfl, hs.tail.tail.tail⟩
    · exact absurd hcl h
theorem put_full {x : List UInt8} (hne : bs ≠ m) (w0 : World) (hb : w0.heap[bs]? = some (blk 83 (stC k cap used last m gets puts))) (hm : w0.heap[m]? = some (mapObj M clock))
    (hM : Keys32 M) (hu : ((findD (frontL y k) M 0).map (·.2)).getD zB = .agg #[.slice a x.length c, .int .i64 st]) (hb' : (findD (frontL y k) M 0).isSome = b) (hx : Sl w0 1 (.slice a x.length c) x.length (u8s x)) (hxO : Outside (.slice a x.length c) [bs, m]) (hxr : Room (.slice a x.length c)) (hsx : x.length < 1099511627776)
    (hy : Sl w0 1 v y.length (u8s y)) (hO : OutE v y [bs, m]) (hcp : Room v) (hp : puts < 1099511627776) (hsy : y.length < 1099511627776) (hshort : y.length ≤ 1048576) (hk1 : 1 ≤ k) (hk : k ≤ 32) (hdi : b = true → x ≠ y ∧ frontL x k ≠ frontL y k)
    (hus : used < 1099511627776) (hou : b = true → x.length + 32 ≤ used) (hf1 : b = true → cap < used + (y.length + 32) - (x.length + 32)) (hf0 : b = false → cap < used + (y.length + 32)) :
    Calls Try.prog 12 #[.pointer (some ⟨bs, 0, none⟩), v] w0 (fun e w' => e = .returned (.tuple #[.agg (u8s zD).toArray, .int .i64 43]) ∧ Step [bs, m] [(bs, blk 83 (stC k cap used last m gets (puts + 1))), (m, mapObj M clock)] w0 w') := by
  have hdl : (u8s (frontL y k)).length = 32 := by rw [u8s, List.length_map, frontL_len hk]
  have hd := frontL_len (x := y) hk
  have hs : Step [bs, m] [(bs, blk 83 (stC k cap used last m gets puts)), (m, mapObj M clock)] w0 w0 := Step.start (L := [(bs, blk 83 (stC k cap used last m gets puts)), (m, mapObj M clock)]) (by simpa using hne) (by intro p hp; simp at hp; rcases hp with rfl | rfl; exact hb; exact hm)
  have hobt := Sl.form hy
  obtain ⟨av, cv, rfl⟩ := hobt
  refine calls (n := 64) Try.func12 rfl rfl rfl ?_
  refine CW.seq ?_
  refine CW.reg ?_
  refine WL.alloc ty27 rfl hs (fun b4 w hs => ?_)
  refine WL.val rfl (run_assign) ?_
  refine WL.nil ?_
  refine CW.seq ?_
  refine CW.reg ?_
  refine WL.val rfl (run_move) ?_
  refine WL.val rfl (run_nilCheck rfl) ?_
  refine WL.val rfl (run_field (o' := 5) Try.underlying83 rfl ty66 rfl rfl rfl) ?_
  refine WL.val rfl (run_field (o' := 1) Try.underlying66 rfl ty3 rfl rfl rfl) ?_
  refine WL.val rfl (run_load1 ty3 rfl (hs.c1 (v := .int .i64 (puts : Nat)) rfl)) ?_
  refine WL.val rfl (run_add (c := ((puts + 1 : Nat) : Int)) rfl rfl (by omega) (by omega)) ?_
  refine WL.val rfl (run_nilCheck rfl) ?_
  refine WL.val rfl (run_field (o' := 5) Try.underlying83 rfl ty66 rfl rfl rfl) ?_
  refine WL.val rfl (run_field (o' := 1) Try.underlying66 rfl ty3 rfl rfl rfl) ?_
  refine WL.store1 ty3 rfl rfl (rfl) (hs.swap) (by first | (simp; done) | omega | (simp only [List.length_append, List.length_replicate, List.length_cons, List.length_nil, List.length_set]; omega) | (simp [Ent.cells, u8s]; done) | exact Nat.le_of_ble_eq_true rfl) (fun w hs => ?_)
  refine WL.nil ?_
  replace hs : Step [bs, m] [(bs, blk 83 (stC k cap used last m gets (puts + 1))), (b4, blk 27 (u8s zD)), (m, mapObj M clock)] w0 w := hs
  refine CW.seq <| CW.seq ?_
  refine CW.reg ?_
  refine WL.val rfl (run_move) ?_
  refine WL.val rfl (run_lenSl Try.underlying22 rfl) ?_
  refine WL.val rfl (run_bF (run_gtr rfl rfl) (by omega)) ?_
  refine WL.nil ?_
  refine CW.cond rfl (fun h => ?_) (fun h => ?_)
  · cases h
  repeat (first | refine CW.seq ?_ | refine CW.skip ?_)
  refine CW.reg ?_
  refine WL.val rfl (run_move) ?_
  refine WL.val rfl (run_move) ?_
  refine WL.enter rfl (run_call en25 rfl rfl) (digest_spec _ (hs.c0 rfl) (hy.stepE hs hO) hcp hsy hk1 hk) ?_
  rintro e w ⟨rfl, hq⟩
  refine ⟨_, rfl, ?_⟩
  replace hs := hs.callE hq
  refine WL.alloc ty27 rfl hs (fun b6 w hs => ?_)
  refine WL.storeAll ty27 rfl rfl ((hdl)) (Cells1.u8s _) hs (by first | rfl | assumption) (fun w hs => ?_)
  refine WL.nil ?_
  refine CW.seq <| CW.seq ?_
  refine CW.any (A := fun w => Step [bs, m] [(b6, blk 27 (u8s (frontL y k))), (bs, blk 83 (stC k cap used last m gets (puts + 1))), (b4, blk 27 (u8s zD)), (m, mapObj M clock)] w0 w) (C := fun w => Step [bs, m] [(b6, blk 27 (u8s (frontL y k))), (bs, blk 83 (stC k cap used last m gets (puts + 1))), (b4, blk 27 (u8s zD)), (m, mapObj M clock)] w0 w) 1000000 12 mixedP rfl ?_
  replace hs := hs.drew
  refine AL.val 0 rfl (by kernel_rfl) rfl (fun w hs => run_move) ?_
  refine AL.val 1 rfl (by kernel_rfl) rfl (fun w hs => run_nilCheck rfl) ?_
  refine AL.val 2 rfl (by kernel_rfl) rfl (fun w hs => run_field (o' := 4) Try.underlying83 rfl ty81 rfl rfl rfl) ?_
  refine AL.val 3 rfl (by kernel_rfl) rfl (fun w hs => run_load1 ty81 rfl ((by first | exact hs.c1 rfl | exact hs.c2 rfl))) ?_
  refine AL.val 4 rfl (by kernel_rfl) rfl (fun w hs => run_loadN ty27 rfl hdl (by first | exact hs.a0 | exact hs.a1)) ?_
  refine AL.val 5 rfl (by kernel_rfl) rfl (fun w hs => run_lookupE Try.underlying81 (zBlob _) hM hd hu hb' rfl rfl (hs.get (o := mapObj M clock) (by simp))) ?_
  refine AL.val 6 rfl (by kernel_rfl) rfl (fun w hs => run_move) ?_
  refine AL.val 7 rfl (by kernel_rfl) rfl (fun w hs => run_extract rfl rfl) ?_
  refine AL.val 8 rfl (by kernel_rfl) rfl (fun w hs => run_extract rfl rfl) ?_
  refine AL.one 9 (by kernel_rfl) rfl (by first | exact hs | exact hs.tail) (by first | exact hs | exact hs.tail) ?_
  refine WL.alloc ty85 rfl hs (fun b7 w hs => ?_)
  refine WL.nil ?_
  refine ⟨rfl, ?_⟩
  refine AL.one 10 (by kernel_rfl) rfl (by first | exact hs | exact hs.tail) (by first | exact hs | exact hs.tail) ?_
  refine WL.storeAll ty85 rfl rfl (rfl) (Cells1.of_all rfl) hs (by first | rfl | assumption) (fun w hs => ?_)
  refine WL.nil ?_
  refine ⟨rfl, ?_⟩
  refine AL.val 11 rfl (by kernel_rfl) rfl (fun w hs => run_assign) ?_
  refine AL.end (by kernel_rfl) (by first | exact hs | exact hs.tail) (by first | exact hs | exact hs.tail) ?_
  cases b
  · repeat (first | refine CW.seq ?_ | refine CW.block ?_)
    refine CW.reg ?_
    refine WL.val rfl (run_move) ?_
    refine WL.val rfl (run_move) ?_
    refine WL.no rfl rfl rfl (.inl rfl) ?_
    refine WL.no rfl rfl rfl (.inl rfl) ?_
    refine WL.no rfl rfl rfl (.inl rfl) ?_
    refine WL.no rfl rfl rfl (.inl rfl) ?_
    refine WL.val rfl (run_pickF rfl) ?_
    refine WL.val rfl (run_assign) ?_
    refine WL.nil ?_
    refine CW.cond rfl (fun h => ?_) (fun h => ?_)
    · cases h
    · refine CW.seq ?_
      refine CW.quiet mixedP (by kernel_rfl) hs ?_
      refine QL.val rfl (fun w hs => run_move) ?_
      refine QL.val rfl (fun w hs => run_move) ?_
      refine QL.no rfl rfl rfl (.inl rfl) ?_
      refine QL.no rfl rfl rfl (.inl rfl) ?_
      refine QL.no rfl rfl rfl (.inl rfl) ?_
      refine QL.no rfl rfl rfl (.inl rfl) ?_
      refine QL.no rfl rfl rfl (.inl rfl) ?_
      refine QL.no rfl rfl rfl (.inl rfl) ?_
      refine QL.val rfl (fun w hs => run_pickF rfl) ?_
      refine QL.val rfl (fun w hs => run_assign) ?_
      refine QL.nil (fun w hs => ?_)
      refine CW.cond rfl (fun h => ?_) (fun h => ?_)
      · cases h
      · repeat (first | refine CW.seq ?_ | refine CW.skip ?_)
        refine CW.reg ?_
        refine WL.val rfl (run_move) ?_
        refine WL.val rfl (run_loadN ty27 rfl hdl hs.a1) ?_
        refine WL.val rfl (run_move) ?_
        refine WL.enter rfl (run_call en39 rfl rfl) (lay_full hne _ (hs.get (o := blk 83 (stC k cap used last m gets (puts + 1))) (by simp)) (hs.get (o := mapObj M clock) (by simp)) hM hd hu hb' (hy.stepE hs hO) hsy hsx hus hou hf1 hf0) ?_
        rintro e w ⟨rfl, hq⟩
        refine ⟨_, rfl, ?_⟩
        replace hs := hs.callE hq
        refine WL.val rfl (run_assign) ?_
        refine WL.nil ?_
        refine CW.seq ?_
        refine CW.reg ?_
        refine WL.val rfl (run_move) ?_
        refine WL.val rfl (run_bT (run_neq rfl rfl) (by decide)) ?_
        refine WL.nil ?_
        refine CW.cond rfl (fun h => ?_) (fun h => ?_)
        · refine CW.seq ?_
          refine CW.reg ?_
          refine WL.val rfl (run_build rfl ((bld_dig _))) ?_
          refine WL.val rfl (run_move) ?_
          refine WL.storeAll ty27 rfl rfl ((by rfl)) (Cells1.u8s _) (hs.front [_, _, _]) rfl (fun w hs => ?_)
          refine WL.val rfl (run_assign) ?_
          refine WL.nil ?_
          refine CW.ret ?_
          refine fin_cellTmp rfl rfl (run_loadVarN ty27 (by first | rfl | assumption | (simp; done)) hs.a0) ?_
          exact ⟨rfl, hs.tail.tail.tail⟩
        · cases h
  · have hobt := hdi rfl
    obtain ⟨hxy, hcl⟩ := hobt
    repeat (first | refine CW.seq ?_ | refine CW.block ?_)
    refine CW.reg ?_
    refine WL.val rfl (run_move) ?_
    refine WL.val rfl (run_move) ?_
    refine WL.yes rfl rfl rfl ?_; refine WL.val rfl (run_field (o' := 0) Try.underlying85 rfl ty22 rfl rfl rfl) ?_
    refine WL.yes rfl rfl rfl ?_
    refine WL.val rfl (run_load1 ty22 rfl (hs.c0 (v := .slice a x.length c) rfl)) ?_
    refine WL.yes rfl rfl rfl ?_; refine WL.val rfl (run_move) ?_
    refine WL.yes rfl rfl rfl ?_
    refine WL.enter rfl (run_call en38 rfl rfl) (equal_spec _ (hx.step hs hxO) (hy.stepE hs hO)) ?_
    rintro e w ⟨rfl, hq⟩
    refine ⟨_, rfl, ?_⟩
    replace hs := hs.callE hq
    refine WL.val rfl (run_pickT rfl) ?_
    refine WL.val rfl (run_assign) ?_
    refine WL.nil ?_
    refine CW.condP rfl (fun h => ?_) (fun h => ?_)
    · exact absurd h hxy
    · refine CW.seq ?_
      refine CW.quiet mixedP (by kernel_rfl) hs ?_
      refine QL.val rfl (fun w hs => run_move) ?_
      refine QL.val rfl (fun w hs => run_move) ?_
      refine QL.yes rfl rfl rfl ?_; refine QL.val rfl (fun w hs => run_move) ?_
      refine QL.yes rfl rfl rfl ?_; refine QL.val rfl (fun w hs => run_field (o' := 0) Try.underlying85 rfl ty22 rfl rfl rfl) ?_
      refine QL.yes rfl rfl rfl ?_
      refine QL.val rfl (fun w hs => run_load1 ty22 rfl (hs.c0 (v := .slice a x.length c) rfl)) ?_
      refine QL.yes rfl rfl rfl ?_
      refine QL.enter rfl (fun w => run_call en25 rfl rfl) (fun w hs => digest_spec _ (hs.c2 rfl) (hx.step hs hxO) hxr hsx hk1 hk) ?_
      refine QL.yes rfl rfl rfl ?_
      refine QL.val rfl (fun w hs => run_loadN ty27 rfl hdl hs.a1) ?_
      refine QL.yes rfl rfl rfl ?_
      refine QL.val rfl (fun w hs => run_eqDig (frontL_len hk) hd rfl rfl) ?_
      refine QL.val rfl (fun w hs => run_pickT rfl) ?_
      refine QL.val rfl (fun w hs => run_assign) ?_
      refine QL.nil (fun w hs => ?_)
      refine CW.condP rfl (fun h => ?_) (fun h => ?_)
      · exact absurd h hcl
      · repeat (first | refine CW.seq ?_ | refine CW.skip ?_)
        refine CW.reg ?_
        refine WL.val rfl (run_move) ?_
        refine WL.val rfl (run_loadN ty27 rfl hdl hs.a1) ?_
        refine WL.val rfl (run_move) ?_
        refine WL.enter rfl (run_call en39 rfl rfl) (lay_full hne _ (hs.get (o := blk 83 (stC k cap used last m gets (puts + 1))) (by simp)) (hs.get (o := mapObj M clock) (by simp)) hM hd hu hb' (hy.stepE hs hO) hsy hsx hus hou hf1 hf0) ?_
        rintro e w ⟨rfl, hq⟩
        refine ⟨_, rfl, ?_⟩
        replace hs := hs.callE hq
        refine WL.val rfl (run_assign) ?_
        refine WL.nil ?_
        refine CW.seq ?_
        refine CW.reg ?_
        refine WL.val rfl (run_move) ?_
        refine WL.val rfl (run_bT (run_neq rfl rfl) (by decide)) ?_
        refine WL.nil ?_
        refine CW.cond rfl (fun h => ?_) (fun h => ?_)
        · refine CW.seq ?_
          refine CW.reg ?_
          refine WL.val rfl (run_build rfl ((bld_dig _))) ?_
          refine WL.val rfl (run_move) ?_
          refine WL.storeAll ty27 rfl rfl ((by rfl)) (Cells1.u8s _) (hs.front [_, _, _]) rfl (fun w hs => ?_)
          refine WL.val rfl (run_assign) ?_
          refine WL.nil ?_
          refine CW.ret ?_
          refine fin_cellTmp rfl rfl (run_loadVarN ty27 (by first | rfl | assumption | (simp; done)) hs.a0) ?_
          exact ⟨rfl, hs.tail.tail.tail⟩
        · cases h
theorem put_ok {x : List UInt8} (hne : bs ≠ m) (w0 : World) (hb : w0.heap[bs]? = some (blk 83 (stC k cap used last m gets puts))) (hm : w0.heap[m]? = some (mapObj M clock))
    (hM : Keys32 M) (hu : ((findD (frontL y k) M 0).map (·.2)).getD zB = .agg #[.slice a x.length c, .int .i64 st]) (hb' : (findD (frontL y k) M 0).isSome = b) (hx : Sl w0 1 (.slice a x.length c) x.length (u8s x)) (hxO : Outside (.slice a x.length c) [bs, m]) (hxr : Room (.slice a x.length c)) (hsx : x.length < 1099511627776)
    (hy : Sl w0 1 v y.length (u8s y)) (hO : OutE v y [bs, m]) (hcp : Room v) (hp : puts < 1099511627776) (hsy : y.length < 1099511627776) (hshort : y.length ≤ 1048576) (hk1 : 1 ≤ k) (hk : k ≤ 32) (hdi : b = true → x ≠ y ∧ frontL x k ≠ frontL y k)
    (hus : used < 1099511627776) (hlast : last < 1099511627776) (hou : b = true → x.length + 32 ≤ used) {used' : Nat} (hf1 : b = true → used' = used + (y.length + 32) - (x.length + 32)) (hf0 : b = false → used' = used + (y.length + 32)) (hcap : used' ≤ cap) :
    Calls Try.prog 12 #[.pointer (some ⟨bs, 0, none⟩), v] w0 (fun e w' => ∃ v' Lv, e = .returned (.tuple #[.agg (u8s (frontL y k)).toArray, .int .i64 0]) ∧ OwnSl 5 1 v' y.length (u8s y) Lv ∧
      Step [bs, m] ((bs, blk 83 (stC k cap used' (last + 1) m gets (puts + 1))) :: (m, mapObj (putM (frontL y k) (.agg #[v', .int .i64 (last + 1 : Nat)]) clock M) (putC (frontL y k) clock M)) :: Lv) w0 w') := by
  have hdl : (u8s (frontL y k)).length = 32 := by rw [u8s, List.length_map, frontL_len hk]
  have hd := frontL_len (x := y) hk
  have hs : Step [bs, m] [(bs, blk 83 (stC k cap used last m gets puts)), (m, mapObj M clock)] w0 w0 := Step.start (L := [(bs, blk 83 (stC k cap used last m gets puts)), (m, mapObj M clock)]) (by simpa using hne) (by intro p hp; simp at hp; rcases hp with rfl | rfl; exact hb; exact hm)
  have hobt := Sl.form hy
  obtain ⟨av, cv, rfl⟩ := hobt
  refine calls (n := 64) Try.func12 rfl rfl rfl ?_
  refine CW.seq ?_
  refine CW.reg ?_
  refine WL.alloc ty27 rfl hs (fun b4 w hs => ?_)
  refine WL.val rfl (run_assign) ?_
  refine WL.nil ?_
  refine CW.seq ?_
  refine CW.reg ?_
  refine WL.val rfl (run_move) ?_
  refine WL.val rfl (run_nilCheck rfl) ?_
  refine WL.val rfl (run_field (o' := 5) Try.underlying83 rfl ty66 rfl rfl rfl) ?_
  refine WL.val rfl (run_field (o' := 1) Try.underlying66 rfl ty3 rfl rfl rfl) ?_
  refine WL.val rfl (run_load1 ty3 rfl (hs.c1 (v := .int .i64 (puts : Nat)) rfl)) ?_
  refine WL.val rfl (run_add (c := ((puts + 1 : Nat) : Int)) rfl rfl (by omega) (by omega)) ?_
  refine WL.val rfl (run_nilCheck rfl) ?_
  refine WL.val rfl (run_field (o' := 5) Try.underlying83 rfl ty66 rfl rfl rfl) ?_
  refine WL.val rfl (run_field (o' := 1) Try.underlying66 rfl ty3 rfl rfl rfl) ?_
  refine WL.store1 ty3 rfl rfl (rfl) (hs.swap) (by first | (simp; done) | omega | (simp only [List.length_append, List.length_replicate, List.length_cons, List.length_nil, List.length_set]; omega) | (simp [Ent.cells, u8s]; done) | exact Nat.le_of_ble_eq_true rfl) (fun w hs => ?_)
  refine WL.nil ?_
  replace hs : Step [bs, m] [(bs, blk 83 (stC k cap used last m gets (puts + 1))), (b4, blk 27 (u8s zD)), (m, mapObj M clock)] w0 w := hs
  refine CW.seq <| CW.seq ?_
  refine CW.reg ?_
  refine WL.val rfl (run_move) ?_
  refine WL.val rfl (run_lenSl Try.underlying22 rfl) ?_
  refine WL.val rfl (run_bF (run_gtr rfl rfl) (by omega)) ?_
  refine WL.nil ?_
  refine CW.cond rfl (fun h => ?_) (fun h => ?_)
  · cases h
  repeat (first | refine CW.seq ?_ | refine CW.skip ?_)
  refine CW.reg ?_
  refine WL.val rfl (run_move) ?_
  refine WL.val rfl (run_move) ?_
  refine WL.enter rfl (run_call en25 rfl rfl) (digest_spec _ (hs.c0 rfl) (hy.stepE hs hO) hcp hsy hk1 hk) ?_
  rintro e w ⟨rfl, hq⟩
  refine ⟨_, rfl, ?_⟩
  replace hs := hs.callE hq
  refine WL.alloc ty27 rfl hs (fun b6 w hs => ?_)
  refine WL.storeAll ty27 rfl rfl ((hdl)) (Cells1.u8s _) hs (by first | rfl | assumption) (fun w hs => ?_)
  refine WL.nil ?_
  refine CW.seq <| CW.seq ?_
  refine CW.any (A := fun w => Step [bs, m] [(b6, blk 27 (u8s (frontL y k))), (bs, blk 83 (stC k cap used last m gets (puts + 1))), (b4, blk 27 (u8s zD)), (m, mapObj M clock)] w0 w) (C := fun w => Step [bs, m] [(b6, blk 27 (u8s (frontL y k))), (bs, blk 83 (stC k cap used last m gets (puts + 1))), (b4, blk 27 (u8s zD)), (m, mapObj M clock)] w0 w) 1000000 12 mixedP rfl ?_
  replace hs := hs.drew
  refine AL.val 0 rfl (by kernel_rfl) rfl (fun w hs => run_move) ?_
  refine AL.val 1 rfl (by kernel_rfl) rfl (fun w hs => run_nilCheck rfl) ?_
  refine AL.val 2 rfl (by kernel_rfl) rfl (fun w hs => run_field (o' := 4) Try.underlying83 rfl ty81 rfl rfl rfl) ?_
  refine AL.val 3 rfl (by kernel_rfl) rfl (fun w hs => run_load1 ty81 rfl ((by first | exact hs.c1 rfl | exact hs.c2 rfl))) ?_
  refine AL.val 4 rfl (by kernel_rfl) rfl (fun w hs => run_loadN ty27 rfl hdl (by first | exact hs.a0 | exact hs.a1)) ?_
  refine AL.val 5 rfl (by kernel_rfl) rfl (fun w hs => run_lookupE Try.underlying81 (zBlob _) hM hd hu hb' rfl rfl (hs.get (o := mapObj M clock) (by simp))) ?_
  refine AL.val 6 rfl (by kernel_rfl) rfl (fun w hs => run_move) ?_
  refine AL.val 7 rfl (by kernel_rfl) rfl (fun w hs => run_extract rfl rfl) ?_
  refine AL.val 8 rfl (by kernel_rfl) rfl (fun w hs => run_extract rfl rfl) ?_
  refine AL.one 9 (by kernel_rfl) rfl (by first | exact hs | exact hs.tail) (by first | exact hs | exact hs.tail) ?_
  refine WL.alloc ty85 rfl hs (fun b7 w hs => ?_)
  refine WL.nil ?_
  refine ⟨rfl, ?_⟩
  refine AL.one 10 (by kernel_rfl) rfl (by first | exact hs | exact hs.tail) (by first | exact hs | exact hs.tail) ?_
  refine WL.storeAll ty85 rfl rfl (rfl) (Cells1.of_all rfl) hs (by first | rfl | assumption) (fun w hs => ?_)
  refine WL.nil ?_
  refine ⟨rfl, ?_⟩
  refine AL.val 11 rfl (by kernel_rfl) rfl (fun w hs => run_assign) ?_
  refine AL.end (by kernel_rfl) (by first | exact hs | exact hs.tail) (by first | exact hs | exact hs.tail) ?_
  cases b
  · repeat (first | refine CW.seq ?_ | refine CW.block ?_)
    refine CW.reg ?_
    refine WL.val rfl (run_move) ?_
    refine WL.val rfl (run_move) ?_
    refine WL.no rfl rfl rfl (.inl rfl) ?_
    refine WL.no rfl rfl rfl (.inl rfl) ?_
    refine WL.no rfl rfl rfl (.inl rfl) ?_
    refine WL.no rfl rfl rfl (.inl rfl) ?_
    refine WL.val rfl (run_pickF rfl) ?_
    refine WL.val rfl (run_assign) ?_
    refine WL.nil ?_
    refine CW.cond rfl (fun h => ?_) (fun h => ?_)
    · cases h
    · refine CW.seq ?_
      refine CW.quiet mixedP (by kernel_rfl) hs ?_
      refine QL.val rfl (fun w hs => run_move) ?_
      refine QL.val rfl (fun w hs => run_move) ?_
      refine QL.no rfl rfl rfl (.inl rfl) ?_
      refine QL.no rfl rfl rfl (.inl rfl) ?_
      refine QL.no rfl rfl rfl (.inl rfl) ?_
      refine QL.no rfl rfl rfl (.inl rfl) ?_
      refine QL.no rfl rfl rfl (.inl rfl) ?_
      refine QL.no rfl rfl rfl (.inl rfl) ?_
      refine QL.val rfl (fun w hs => run_pickF rfl) ?_
      refine QL.val rfl (fun w hs => run_assign) ?_
      refine QL.nil (fun w hs => ?_)
      refine CW.cond rfl (fun h => ?_) (fun h => ?_)
      · cases h
      · replace hs := Step.front [_, _, _] (hs.front [_, _, _, _])
        repeat (first | refine CW.seq ?_ | refine CW.skip ?_)
        refine CW.reg ?_
        refine WL.val rfl (run_move) ?_
        refine WL.val rfl (run_loadN ty27 rfl hdl hs.a3) ?_
        refine WL.val rfl (run_move) ?_
        refine WL.enter rfl (run_call en39 rfl rfl) (lay_ok hne _ (hs.get (o := blk 83 (stC k cap used last m gets (puts + 1))) (by simp)) (hs.get (o := mapObj M clock) (by simp)) hM hd hu hb' (hy.stepE hs hO) hO hsy hsx hus hlast hou hf1 hf0 hcap) ?_
        rintro e w ⟨v', Lv, rfl, hu', hq⟩
        refine ⟨_, rfl, ?_⟩
        replace hs := Step.append_comm (L1 := _ :: _ :: Lv) (L2 := [_, _, _]) (Step.call (L1 := [_, _]) hs hq)
        refine WL.val rfl (run_assign) ?_
        refine WL.nil ?_
        refine CW.seq ?_
        refine CW.reg ?_
        refine WL.val rfl (run_move) ?_
        refine WL.val rfl (run_bF (run_neq rfl rfl) (by decide)) ?_
        refine WL.nil ?_
        refine CW.cond rfl (fun h => ?_) (fun h => ?_)
        · cases h
        · repeat (first | refine CW.seq ?_ | refine CW.skip ?_)
          refine CW.reg ?_
          refine WL.val rfl (run_loadN ty27 rfl hdl hs.a1) ?_
          refine WL.storeAll ty27 rfl rfl (hdl) (Cells1.u8s _) (hs.front [_, _]) rfl (fun w hs => ?_)
          refine WL.val rfl (run_assign) ?_
          refine WL.nil ?_
          refine CW.ret ?_
          refine fin_cellTmp rfl rfl (run_loadVarN ty27 (by first | rfl | assumption | (simp; done)) hs.a0) ?_
          exact ⟨v', Lv, rfl, hu', hs.tail.tail.tail⟩
  · have hobt := hdi rfl
    obtain ⟨hxy, hcl⟩ := hobt
    repeat (first | refine CW.seq ?_ | refine CW.block ?_)
    refine CW.reg ?_
    refine WL.val rfl (run_move) ?_
    refine WL.val rfl (run_move) ?_
    refine WL.yes rfl rfl rfl ?_; refine WL.val rfl (run_field (o' := 0) Try.underlying85 rfl ty22 rfl rfl rfl) ?_
    refine WL.yes rfl rfl rfl ?_
    refine WL.val rfl (run_load1 ty22 rfl (hs.c0 (v := .slice a x.length c) rfl)) ?_
    refine WL.yes rfl rfl rfl ?_; refine WL.val rfl (run_move) ?_
    refine WL.yes rfl rfl rfl ?_
    refine WL.enter rfl (run_call en38 rfl rfl) (equal_spec _ (hx.step hs hxO) (hy.stepE hs hO)) ?_
    rintro e w ⟨rfl, hq⟩
    refine ⟨_, rfl, ?_⟩
    replace hs := hs.callE hq
    refine WL.val rfl (run_pickT rfl) ?_
    refine WL.val rfl (run_assign) ?_
    refine WL.nil ?_
    refine CW.condP rfl (fun h => ?_) (fun h => ?_)
    · exact absurd h hxy
    · refine CW.seq ?_
      refine CW.quiet mixedP (by kernel_rfl) hs ?_
      refine QL.val rfl (fun w hs => run_move) ?_
      refine QL.val rfl (fun w hs => run_move) ?_
      refine QL.yes rfl rfl rfl ?_; refine QL.val rfl (fun w hs => run_move) ?_
      refine QL.yes rfl rfl rfl ?_; refine QL.val rfl (fun w hs => run_field (o' := 0) Try.underlying85 rfl ty22 rfl rfl rfl) ?_
      refine QL.yes rfl rfl rfl ?_
      refine QL.val rfl (fun w hs => run_load1 ty22 rfl (hs.c0 (v := .slice a x.length c) rfl)) ?_
      refine QL.yes rfl rfl rfl ?_
      refine QL.enter rfl (fun w => run_call en25 rfl rfl) (fun w hs => digest_spec _ (hs.c2 rfl) (hx.step hs hxO) hxr hsx hk1 hk) ?_
      refine QL.yes rfl rfl rfl ?_
      refine QL.val rfl (fun w hs => run_loadN ty27 rfl hdl hs.a1) ?_
      refine QL.yes rfl rfl rfl ?_
      refine QL.val rfl (fun w hs => run_eqDig (frontL_len hk) hd rfl rfl) ?_
      refine QL.val rfl (fun w hs => run_pickT rfl) ?_
      refine QL.val rfl (fun w hs => run_assign) ?_
      refine QL.nil (fun w hs => ?_)
      refine CW.condP rfl (fun h => ?_) (fun h => ?_)
      · exact absurd h hcl
      · replace hs := Step.front [_, _, _] (hs.front [_, _, _, _])
        repeat (first | refine CW.seq ?_ | refine CW.skip ?_)
        refine CW.reg ?_
        refine WL.val rfl (run_move) ?_
        refine WL.val rfl (run_loadN ty27 rfl hdl hs.a3) ?_
        refine WL.val rfl (run_move) ?_
        refine WL.enter rfl (run_call en39 rfl rfl) (lay_ok hne _ (hs.get (o := blk 83 (stC k cap used last m gets (puts + 1))) (by simp)) (hs.get (o := mapObj M clock) (by simp)) hM hd hu hb' (hy.stepE hs hO) hO hsy hsx hus hlast hou hf1 hf0 hcap) ?_
        rintro e w ⟨v', Lv, rfl, hu', hq⟩
        refine ⟨_, rfl, ?_⟩
        replace hs := Step.append_comm (L1 := _ :: _ :: Lv) (L2 := [_, _, _]) (Step.call (L1 := [_, _]) hs hq)
        refine WL.val rfl (run_assign) ?_
        refine WL.nil ?_
        refine CW.seq ?_
        refine CW.reg ?_
        refine WL.val rfl (run_move) ?_
        refine WL.val rfl (run_bF (run_neq rfl rfl) (by decide)) ?_
        refine WL.nil ?_
        refine CW.cond rfl (fun h => ?_) (fun h => ?_)
        · cases h
        · repeat (first | refine CW.seq ?_ | refine CW.skip ?_)
          refine CW.reg ?_
          refine WL.val rfl (run_loadN ty27 rfl hdl hs.a1) ?_
          refine WL.storeAll ty27 rfl rfl (hdl) (Cells1.u8s _) (hs.front [_, _]) rfl (fun w hs => ?_)
          refine WL.val rfl (run_assign) ?_
          refine WL.nil ?_
          refine CW.ret ?_
          refine fin_cellTmp rfl rfl (run_loadVarN ty27 (by first | rfl | assumption | (simp; done)) hs.a0) ?_
          exact ⟨v', Lv, rfl, hu', hs.tail.tail.tail⟩
end
end Go.Gx
/-! Store11 -/
namespace Go.Gx
open Go.Proofs
set_option linter.unusedVariables false
set_option linter.unusedSimpArgs false
set_option maxRecDepth 100000
attribute [local irreducible] shaL cutD frontL
section
variable {bs k cap used last m gets puts clock st n c : Nat} {a : Option Addr} {M : List (List UInt8 × Value × Nat)} {d : List UInt8} {b : Bool} {x y : List UInt8} {v : Value}
theorem plant_arg (w0 : World) (hb : w0.heap[bs]? = some (blk 83 (stC k cap used last m gets puts))) (hd : d.length = 32) (hk1 : 1 ≤ k) (hk : k ≤ 32) (hnf : fitsL d k = false) :
    Calls Try.prog 15 #[.pointer (some ⟨bs, 0, none⟩), .agg (u8s d).toArray, v] w0 (Ret0 (.int .i64 1) w0) := by
  have hs : Step [] [] w0 w0 := Step.refl w0
  have hat : At w0 bs 0 (stC k cap used last m gets puts) := At.of_blk hb
  have hdl : (u8s d).length = 32 := by rw [u8s, List.length_map, hd]
  have hfit := fun w => fits_spec (d := d) (k := k) hd w
  simp only [hnf] at hfit
  refine calls (n := 23) Try.func15 rfl rfl rfl ?_
  refine CW.seq ?_
  refine CW.reg ?_
  refine WL.box (cs := u8s d) rfl rfl rfl hs (fun b4 w hs => ?_)
  refine WL.val rfl (run_assign) ?_
  refine WL.nil ?_
  repeat (first | refine CW.seq ?_ | refine CW.block ?_)
  refine CW.quiet mixedP (by kernel_rfl) hs ?_
  refine QL.val rfl (fun w hs => run_loadN ty27 rfl hdl hs.a0) ?_
  refine QL.val rfl (fun w hs => run_move) ?_
  refine QL.val rfl (fun w hs => run_nilCheck rfl) ?_
  refine QL.val rfl (fun w hs => run_field (o' := 0) Try.underlying83 rfl ty3 rfl rfl rfl) ?_
  refine QL.val rfl (fun w hs => run_load1 ty3 rfl ((hat.step hs.clear (by simp)).cell (j := 0) rfl)) ?_
  refine QL.enter rfl (fun w => run_call en41 rfl rfl) (fun w hs => hfit _) ?_
  refine QL.val rfl (fun w hs => run_not rfl) ?_
  refine QL.val rfl (fun w hs => run_assign) ?_
  refine QL.nil (fun w hs => ?_)
  refine CW.cond rfl (fun h => ?_) (fun h => ?_)
  · refine CW.seq ?_
    refine CW.reg ?_
    refine WL.val rfl (run_assign) ?_
    refine WL.nil ?_
    refine CW.ret ?_
    refine fin_ret1 rfl ?_
    exact ⟨rfl, hs.clear⟩
  · cases h
theorem plant_long (hne : bs ≠ m) (w0 : World) (hb : w0.heap[bs]? = some (blk 83 (stC k cap used last m gets puts))) (hm : w0.heap[m]? = some (mapObj M clock)) (hd : d.length = 32) (hf : fitsL d k = true) (hy : Sl w0 1 v y.length (u8s y)) (hsy : y.length < 1099511627776) (hlong : 1048576 < y.length) :
    Calls Try.prog 15 #[.pointer (some ⟨bs, 0, none⟩), .agg (u8s d).toArray, v] w0 (Ret0 (.int .i64 2) w0) := by
  have hs0 : Step [] [] w0 w0 := Step.refl w0
  have hat : At w0 bs 0 (stC k cap used last m gets puts) := At.of_blk hb
  have hs := hs0
  have hdl : (u8s d).length = 32 := by rw [u8s, List.length_map, hd]
  have hfit := fun w => fits_spec (d := d) (k := k) hd w
  simp only [hf] at hfit
  have hobt := Sl.form hy
  obtain ⟨av, cv, rfl⟩ := hobt
  refine calls (n := 23) Try.func15 rfl rfl rfl ?_
  refine CW.seq ?_
  refine CW.reg ?_
  refine WL.box (cs := u8s d) rfl rfl rfl hs (fun b4 w hs => ?_)
  refine WL.val rfl (run_assign) ?_
  refine WL.nil ?_
  repeat (first | refine CW.seq ?_ | refine CW.block ?_)
  refine CW.quiet mixedP (by kernel_rfl) hs ?_
  refine QL.val rfl (fun w hs => run_loadN ty27 rfl hdl hs.a0) ?_
  refine QL.val rfl (fun w hs => run_move) ?_
  refine QL.val rfl (fun w hs => run_nilCheck rfl) ?_
  refine QL.val rfl (fun w hs => run_field (o' := 0) Try.underlying83 rfl ty3 rfl rfl rfl) ?_
  refine QL.val rfl (fun w hs => run_load1 ty3 rfl ((hat.step hs.clear (by simp)).cell (j := 0) rfl)) ?_
  refine QL.enter rfl (fun w => run_call en41 rfl rfl) (fun w hs => hfit _) ?_
  refine QL.val rfl (fun w hs => run_not rfl) ?_
  refine QL.val rfl (fun w hs => run_assign) ?_
  refine QL.nil (fun w hs => ?_)
  refine CW.cond rfl (fun h => ?_) (fun h => ?_)
  · cases h
  refine CW.seq ?_
  refine CW.reg ?_
  refine WL.val rfl (run_move) ?_
  refine WL.val rfl (run_lenSl Try.underlying22 rfl) ?_
  refine WL.val rfl (run_bT (run_gtr rfl rfl) (by omega)) ?_
  refine WL.val rfl (run_assign) ?_
  refine WL.nil ?_
  refine CW.cond rfl (fun h => ?_) (fun h => ?_)
  · refine CW.seq ?_
    refine CW.reg ?_
    refine WL.val rfl (run_assign) ?_
    refine WL.nil ?_
    refine CW.ret ?_
    refine fin_ret1 rfl ?_
    exact ⟨rfl, hs.clear⟩
  · cases h
theorem plant_full {x : List UInt8} (hne : bs ≠ m) (w0 : World) (hb : w0.heap[bs]? = some (blk 83 (stC k cap used last m gets puts))) (hm : w0.heap[m]? = some (mapObj M clock)) (hd : d.length = 32) (hf : fitsL d k = true)
    (hM : Keys32 M) (hu : ((findD d M 0).map (·.2)).getD zB = .agg #[.slice a n c, .int .i64 st]) (hb' : (findD d M 0).isSome = b) (hy : Sl w0 1 v y.length (u8s y)) (hO : OutE v y [bs, m]) (hsy : y.length < 1099511627776) (hshort : y.length ≤ 1048576)
    (hsx : n < 1099511627776) (hus : used < 1099511627776) (hou : b = true → n + 32 ≤ used) (hf1 : b = true → cap < used + (y.length + 32) - (n + 32)) (hf0 : b = false → cap < used + (y.length + 32)) :
    Calls Try.prog 15 #[.pointer (some ⟨bs, 0, none⟩), .agg (u8s d).toArray, v] w0 (fun e w' => e = .returned (.int .i64 43) ∧ Step [bs, m] [(bs, blk 83 (stC k cap used last m gets puts)), (m, mapObj M clock)] w0 w') := by
  have hs : Step [bs, m] [(bs, blk 83 (stC k cap used last m gets puts)), (m, mapObj M clock)] w0 w0 := Step.start (L := [(bs, blk 83 (stC k cap used last m gets puts)), (m, mapObj M clock)]) (by simpa using hne) (by intro p hp; simp at hp; rcases hp with rfl | rfl; exact hb; exact hm)
  have hdl : (u8s d).length = 32 := by rw [u8s, List.length_map, hd]
  have hfit := fun w => fits_spec (d := d) (k := k) hd w
  simp only [hf] at hfit
  have hobt := Sl.form hy
  obtain ⟨av, cv, rfl⟩ := hobt
  refine calls (n := 23) Try.func15 rfl rfl rfl ?_
  refine CW.seq ?_
  refine CW.reg ?_
  refine WL.box (cs := u8s d) rfl rfl rfl hs (fun b4 w hs => ?_)
  refine WL.val rfl (run_assign) ?_
  refine WL.nil ?_
  repeat (first | refine CW.seq ?_ | refine CW.block ?_)
  refine CW.quiet mixedP (by kernel_rfl) hs ?_
  refine QL.val rfl (fun w hs => run_loadN ty27 rfl hdl hs.a0) ?_
  refine QL.val rfl (fun w hs => run_move) ?_
  refine QL.val rfl (fun w hs => run_nilCheck rfl) ?_
  refine QL.val rfl (fun w hs => run_field (o' := 0) Try.underlying83 rfl ty3 rfl rfl rfl) ?_
  refine QL.val rfl (fun w hs => run_load1 ty3 rfl ((hs.c1 (v := .int .i64 (k : Nat)) rfl))) ?_
  refine QL.enter rfl (fun w => run_call en41 rfl rfl) (fun w hs => hfit _) ?_
  refine QL.val rfl (fun w hs => run_not rfl) ?_
  refine QL.val rfl (fun w hs => run_assign) ?_
  refine QL.nil (fun w hs => ?_)
  refine CW.cond rfl (fun h => ?_) (fun h => ?_)
  · cases h
  refine CW.seq ?_
  refine CW.reg ?_
  refine WL.val rfl (run_move) ?_
  refine WL.val rfl (run_lenSl Try.underlying22 rfl) ?_
  refine WL.val rfl (run_bF (run_gtr rfl rfl) (by omega)) ?_
  refine WL.val rfl (run_assign) ?_
  refine WL.nil ?_
  refine CW.cond rfl (fun h => ?_) (fun h => ?_)
  · cases h
  repeat (first | refine CW.seq ?_ | refine CW.skip ?_)
  refine CW.reg ?_
  refine WL.val rfl (run_move) ?_
  refine WL.val rfl (run_loadN ty27 rfl hdl hs.a0) ?_
  refine WL.val rfl (run_move) ?_
  refine WL.enter rfl (run_call en39 rfl rfl) (lay_full hne _ (hs.get (o := blk 83 (stC k cap used last m gets puts)) (by simp)) (hs.get (o := mapObj M clock) (by simp)) hM hd hu hb' (hy.stepE hs hO) hsy hsx hus hou hf1 hf0) ?_
  rintro e w ⟨rfl, hq⟩
  refine ⟨_, rfl, ?_⟩
  replace hs := hs.callE hq
  refine WL.val rfl (run_assign) ?_
  refine WL.nil ?_
  refine CW.ret ?_
  refine fin_ret1 rfl ?_
  exact ⟨rfl, hs.tail⟩
theorem plant_ok {x : List UInt8} (hne : bs ≠ m) (w0 : World) (hb : w0.heap[bs]? = some (blk 83 (stC k cap used last m gets puts))) (hm : w0.heap[m]? = some (mapObj M clock)) (hd : d.length = 32) (hf : fitsL d k = true)
    (hM : Keys32 M) (hu : ((findD d M 0).map (·.2)).getD zB = .agg #[.slice a n c, .int .i64 st]) (hb' : (findD d M 0).isSome = b) (hy : Sl w0 1 v y.length (u8s y)) (hO : OutE v y [bs, m]) (hsy : y.length < 1099511627776) (hshort : y.length ≤ 1048576)
    (hsx : n < 1099511627776) (hus : used < 1099511627776) (hlast : last < 1099511627776) (hou : b = true → n + 32 ≤ used) {used' : Nat} (hf1 : b = true → used' = used + (y.length + 32) - (n + 32)) (hf0 : b = false → used' = used + (y.length + 32)) (hcap : used' ≤ cap) :
    Calls Try.prog 15 #[.pointer (some ⟨bs, 0, none⟩), .agg (u8s d).toArray, v] w0 (fun e w' => ∃ v' Lv, e = .returned (.int .i64 0) ∧ OwnSl 5 1 v' y.length (u8s y) Lv ∧
      Step [bs, m] ((bs, blk 83 (stC k cap used' (last + 1) m gets puts)) :: (m, mapObj (putM d (.agg #[v', .int .i64 (last + 1 : Nat)]) clock M) (putC d clock M)) :: Lv) w0 w') := by
  have hs : Step [bs, m] [(bs, blk 83 (stC k cap used last m gets puts)), (m, mapObj M clock)] w0 w0 := Step.start (L := [(bs, blk 83 (stC k cap used last m gets puts)), (m, mapObj M clock)]) (by simpa using hne) (by intro p hp; simp at hp; rcases hp with rfl | rfl; exact hb; exact hm)
  have hdl : (u8s d).length = 32 := by rw [u8s, List.length_map, hd]
  have hfit := fun w => fits_spec (d := d) (k := k) hd w
  simp only [hf] at hfit
  have hobt := Sl.form hy
  obtain ⟨av, cv, rfl⟩ := hobt
  refine calls (n := 23) Try.func15 rfl rfl rfl ?_
  refine CW.seq ?_
  refine CW.reg ?_
  refine WL.box (cs := u8s d) rfl rfl rfl hs (fun b4 w hs => ?_)
  refine WL.val rfl (run_assign) ?_
  refine WL.nil ?_
  repeat (first | refine CW.seq ?_ | refine CW.block ?_)
  refine CW.quiet mixedP (by kernel_rfl) hs ?_
  refine QL.val rfl (fun w hs => run_loadN ty27 rfl hdl hs.a0) ?_
  refine QL.val rfl (fun w hs => run_move) ?_
  refine QL.val rfl (fun w hs => run_nilCheck rfl) ?_
  refine QL.val rfl (fun w hs => run_field (o' := 0) Try.underlying83 rfl ty3 rfl rfl rfl) ?_
  refine QL.val rfl (fun w hs => run_load1 ty3 rfl ((hs.c1 (v := .int .i64 (k : Nat)) rfl))) ?_
  refine QL.enter rfl (fun w => run_call en41 rfl rfl) (fun w hs => hfit _) ?_
  refine QL.val rfl (fun w hs => run_not rfl) ?_
  refine QL.val rfl (fun w hs => run_assign) ?_
  refine QL.nil (fun w hs => ?_)
  refine CW.cond rfl (fun h => ?_) (fun h => ?_)
  · cases h
  refine CW.seq ?_
  refine CW.reg ?_
  refine WL.val rfl (run_move) ?_
  refine WL.val rfl (run_lenSl Try.underlying22 rfl) ?_
  refine WL.val rfl (run_bF (run_gtr rfl rfl) (by omega)) ?_
  refine WL.val rfl (run_assign) ?_
  refine WL.nil ?_
  refine CW.cond rfl (fun h => ?_) (fun h => ?_)
  · cases h
  repeat (first | refine CW.seq ?_ | refine CW.skip ?_)
  refine CW.reg ?_
  refine WL.val rfl (run_move) ?_
  refine WL.val rfl (run_loadN ty27 rfl hdl hs.a0) ?_
  refine WL.val rfl (run_move) ?_
  refine WL.enter rfl (run_call en39 rfl rfl) (lay_ok hne _ (hs.get (o := blk 83 (stC k cap used last m gets puts)) (by simp)) (hs.get (o := mapObj M clock) (by simp)) hM hd hu hb' (hy.stepE hs hO) hO hsy hsx hus hlast hou hf1 hf0 hcap) ?_
  rintro e w ⟨v', Lv, rfl, hu', hq⟩
  refine ⟨_, rfl, ?_⟩
  replace hs := Step.append_comm (L1 := _ :: _ :: Lv) (L2 := [_]) (Step.call (L1 := [_, _]) (hs.perm (List.perm_append_comm (l₁ := [_]) (l₂ := [_, _]))) hq)
  refine WL.val rfl (run_assign) ?_
  refine WL.nil ?_
  refine CW.ret ?_
  refine fin_ret1 rfl ?_
  exact ⟨v', Lv, rfl, hu', hs.tail⟩
theorem get_missing (hne : bs ≠ m) (w0 : World) (hb : w0.heap[bs]? = some (blk 83 (stC k cap used last m gets puts))) (hm : w0.heap[m]? = some (mapObj M clock)) (hd : d.length = 32) (hg : gets < 1099511627776)
    (hM : Keys32 M) (hf : findD d M 0 = none) :
    Calls Try.prog 19 #[.pointer (some ⟨bs, 0, none⟩), .agg (u8s d).toArray] w0 (fun e w' => e = .returned (.tuple #[.slice none 0 0, .int .i64 41]) ∧ Step [bs, m] [(bs, blk 83 (stC k cap used last m (gets + 1) puts)), (m, mapObj M clock)] w0 w') := by
  have hu : ((findD d M 0).map (·.2)).getD zB = .agg #[.slice none 0 0, .int .i64 (0 : Nat)] := by rw [hf]; rfl
  have hb' : (findD d M 0).isSome = false := by rw [hf]; rfl
  have hs : Step [bs, m] [(bs, blk 83 (stC k cap used last m gets puts)), (m, mapObj M clock)] w0 w0 := Step.start (L := [(bs, blk 83 (stC k cap used last m gets puts)), (m, mapObj M clock)]) (by simpa using hne) (by intro p hp; simp at hp; rcases hp with rfl | rfl; exact hb; exact hm)
  have hdl : (u8s d).length = 32 := by rw [u8s, List.length_map, hd]
  refine calls (n := 34) Try.func19 rfl rfl rfl ?_
  refine CW.seq ?_
  refine CW.reg ?_
  refine WL.box (cs := u8s d) rfl rfl rfl hs (fun b3 w hs => ?_)
  refine WL.val rfl (run_assign) ?_
  refine WL.val rfl (run_assign) ?_
  refine WL.nil ?_
  refine CW.seq ?_
  refine CW.reg ?_
  refine WL.val rfl (run_move) ?_
  refine WL.val rfl (run_nilCheck rfl) ?_
  refine WL.val rfl (run_field (o' := 5) Try.underlying83 rfl ty66 rfl rfl rfl) ?_
  refine WL.val rfl (run_field (o' := 0) Try.underlying66 rfl ty3 rfl rfl rfl) ?_
  refine WL.val rfl (run_load1 ty3 rfl (hs.c1 (v := .int .i64 (gets : Nat)) rfl)) ?_
  refine WL.val rfl (run_add (c := ((gets + 1 : Nat) : Int)) rfl rfl (by omega) (by omega)) ?_
  refine WL.val rfl (run_nilCheck rfl) ?_
  refine WL.val rfl (run_field (o' := 5) Try.underlying83 rfl ty66 rfl rfl rfl) ?_
  refine WL.val rfl (run_field (o' := 0) Try.underlying66 rfl ty3 rfl rfl rfl) ?_
  refine WL.store1 ty3 rfl rfl (rfl) (hs.swap) (by first | (simp; done) | omega | (simp only [List.length_append, List.length_replicate, List.length_cons, List.length_nil, List.length_set]; omega) | (simp [Ent.cells, u8s]; done) | exact Nat.le_of_ble_eq_true rfl) (fun w hs => ?_)
  refine WL.nil ?_
  replace hs : Step [bs, m] [(bs, blk 83 (stC k cap used last m (gets + 1) puts)), (b3, blk 27 (u8s d)), (m, mapObj M clock)] w0 w := hs
  repeat (first | refine CW.seq ?_ | refine CW.block ?_)
  refine CW.reg ?_
  refine WL.val rfl (run_move) ?_
  refine WL.val rfl (run_loadN ty27 rfl hdl hs.a1) ?_
  refine WL.enter rfl (run_call en43 rfl rfl) (has_spec _ hs.hd (hs.get (o := mapObj M clock) (by simp)) hM hd hu hb') ?_
  rintro e w ⟨rfl, hq⟩
  refine ⟨_, rfl, ?_⟩
  replace hs := hs.callE hq
  refine WL.val rfl (run_not rfl) ?_
  refine WL.val rfl (run_assign) ?_
  refine WL.nil ?_
  refine CW.cond rfl (fun h => ?_) (fun h => ?_)
  · refine CW.seq ?_
    refine CW.reg ?_
    refine WL.val rfl (run_assign) ?_
    refine WL.val rfl (run_assign) ?_
    refine WL.nil ?_
    refine CW.ret ?_
    refine fin_ret2 rfl ?_
    exact ⟨rfl, hs.swap.tail⟩
  · cases h
theorem get_corrupt {x : List UInt8} (hne : bs ≠ m) (w0 : World) (hb : w0.heap[bs]? = some (blk 83 (stC k cap used last m gets puts))) (hm : w0.heap[m]? = some (mapObj M clock)) (hd : d.length = 32) (hg : gets < 1099511627776)
    (hM : Keys32 M) (hu : ((findD d M 0).map (·.2)).getD zB = .agg #[.slice a x.length c, .int .i64 st]) (hb' : (findD d M 0).isSome = true) (hx : Sl w0 1 (.slice a x.length c) x.length (u8s x)) (hxO : Outside (.slice a x.length c) [bs, m]) (hxr : Room (.slice a x.length c)) (hsx : x.length < 1099511627776)
    (hk1 : 1 ≤ k) (hk : k ≤ 32) (hbad : frontL x k ≠ d) :
    Calls Try.prog 19 #[.pointer (some ⟨bs, 0, none⟩), .agg (u8s d).toArray] w0 (fun e w' => e = .returned (.tuple #[.slice none 0 0, .int .i64 42]) ∧ Step [bs, m] [(bs, blk 83 (stC k cap used last m (gets + 1) puts)), (m, mapObj M clock)] w0 w') := by
  have hs : Step [bs, m] [(bs, blk 83 (stC k cap used last m gets puts)), (m, mapObj M clock)] w0 w0 := Step.start (L := [(bs, blk 83 (stC k cap used last m gets puts)), (m, mapObj M clock)]) (by simpa using hne) (by intro p hp; simp at hp; rcases hp with rfl | rfl; exact hb; exact hm)
  have hdl : (u8s d).length = 32 := by rw [u8s, List.length_map, hd]
  refine calls (n := 34) Try.func19 rfl rfl rfl ?_
  refine CW.seq ?_
  refine CW.reg ?_
  refine WL.box (cs := u8s d) rfl rfl rfl hs (fun b3 w hs => ?_)
  refine WL.val rfl (run_assign) ?_
  refine WL.val rfl (run_assign) ?_
  refine WL.nil ?_
  refine CW.seq ?_
  refine CW.reg ?_
  refine WL.val rfl (run_move) ?_
  refine WL.val rfl (run_nilCheck rfl) ?_
  refine WL.val rfl (run_field (o' := 5) Try.underlying83 rfl ty66 rfl rfl rfl) ?_
  refine WL.val rfl (run_field (o' := 0) Try.underlying66 rfl ty3 rfl rfl rfl) ?_
  refine WL.val rfl (run_load1 ty3 rfl (hs.c1 (v := .int .i64 (gets : Nat)) rfl)) ?_
  refine WL.val rfl (run_add (c := ((gets + 1 : Nat) : Int)) rfl rfl (by omega) (by omega)) ?_
  refine WL.val rfl (run_nilCheck rfl) ?_
  refine WL.val rfl (run_field (o' := 5) Try.underlying83 rfl ty66 rfl rfl rfl) ?_
  refine WL.val rfl (run_field (o' := 0) Try.underlying66 rfl ty3 rfl rfl rfl) ?_
  refine WL.store1 ty3 rfl rfl (rfl) (hs.swap) (by first | (simp; done) | omega | (simp only [List.length_append, List.length_replicate, List.length_cons, List.length_nil, List.length_set]; omega) | (simp [Ent.cells, u8s]; done) | exact Nat.le_of_ble_eq_true rfl) (fun w hs => ?_)
  refine WL.nil ?_
  replace hs : Step [bs, m] [(bs, blk 83 (stC k cap used last m (gets + 1) puts)), (b3, blk 27 (u8s d)), (m, mapObj M clock)] w0 w := hs
  have hwh := fun {w : World} h1 h2 h3 => whole_yes (w0 := w) (m := m) (clock := clock) (bs := bs) (cap := cap) (used := used) (last := last) (gets := gets + 1) (puts := puts) h1 h2 hM hd hu hb' h3 hxr hsx hk1 hk
  simp only [decide_eq_false hbad] at hwh
  repeat (first | refine CW.seq ?_ | refine CW.block ?_)
  refine CW.reg ?_
  refine WL.val rfl (run_move) ?_
  refine WL.val rfl (run_loadN ty27 rfl hdl hs.a1) ?_
  refine WL.enter rfl (run_call en43 rfl rfl) (has_spec _ hs.hd (hs.get (o := mapObj M clock) (by simp)) hM hd hu hb') ?_
  rintro e w ⟨rfl, hq⟩
  refine ⟨_, rfl, ?_⟩
  replace hs := hs.callE hq
  refine WL.val rfl (run_not rfl) ?_
  refine WL.val rfl (run_assign) ?_
  refine WL.nil ?_
  refine CW.cond rfl (fun h => ?_) (fun h => ?_)
  · cases h
  refine CW.seq ?_
  refine CW.reg ?_
  refine WL.val rfl (run_move) ?_
  refine WL.val rfl (run_loadN ty27 rfl hdl hs.a1) ?_
  refine WL.enter rfl (run_call en16 rfl rfl) (hwh hs.hd (hs.get (o := mapObj M clock) (by simp)) (hx.step hs hxO)) ?_
  rintro e w ⟨rfl, hq⟩
  refine ⟨_, rfl, ?_⟩
  replace hs := hs.callE hq
  refine WL.val rfl (run_not rfl) ?_
  refine WL.val rfl (run_assign) ?_
  refine WL.nil ?_
  refine CW.cond rfl (fun h => ?_) (fun h => ?_)
  · refine CW.seq ?_
    refine CW.reg ?_
    refine WL.val rfl (run_assign) ?_
    refine WL.val rfl (run_assign) ?_
    refine WL.nil ?_
    refine CW.ret ?_
    refine fin_ret2 rfl ?_
    exact ⟨rfl, hs.swap.tail⟩
  · cases h
theorem get_ok {x : List UInt8} (hne : bs ≠ m) (w0 : World) (hb : w0.heap[bs]? = some (blk 83 (stC k cap used last m gets puts))) (hm : w0.heap[m]? = some (mapObj M clock)) (hd : d.length = 32) (hg : gets < 1099511627776)
    (hM : Keys32 M) (hu : ((findD d M 0).map (·.2)).getD zB = .agg #[.slice a x.length c, .int .i64 st]) (hb' : (findD d M 0).isSome = true) (hx : Sl w0 1 (.slice a x.length c) x.length (u8s x)) (hxO : Outside (.slice a x.length c) [bs, m]) (hxr : Room (.slice a x.length c)) (hsx : x.length < 1099511627776)
    (hk1 : 1 ≤ k) (hk : k ≤ 32) (hbad : frontL x k = d) :
    Calls Try.prog 19 #[.pointer (some ⟨bs, 0, none⟩), .agg (u8s d).toArray] w0 (fun e w' => ∃ v' Lv, e = .returned (.tuple #[v', .int .i64 0]) ∧ OwnSl 5 1 v' x.length (u8s x) Lv ∧ Step [bs, m] ((bs, blk 83 (stC k cap used last m (gets + 1) puts)) :: (m, mapObj M clock) :: Lv) w0 w') := by
  have hs : Step [bs, m] [(bs, blk 83 (stC k cap used last m gets puts)), (m, mapObj M clock)] w0 w0 := Step.start (L := [(bs, blk 83 (stC k cap used last m gets puts)), (m, mapObj M clock)]) (by simpa using hne) (by intro p hp; simp at hp; rcases hp with rfl | rfl; exact hb; exact hm)
  have hdl : (u8s d).length = 32 := by rw [u8s, List.length_map, hd]
  refine calls (n := 34) Try.func19 rfl rfl rfl ?_
  refine CW.seq ?_
  refine CW.reg ?_
  refine WL.box (cs := u8s d) rfl rfl rfl hs (fun b3 w hs => ?_)
  refine WL.val rfl (run_assign) ?_
  refine WL.val rfl (run_assign) ?_
  refine WL.nil ?_
  refine CW.seq ?_
  refine CW.reg ?_
  refine WL.val rfl (run_move) ?_
  refine WL.val rfl (run_nilCheck rfl) ?_
  refine WL.val rfl (run_field (o' := 5) Try.underlying83 rfl ty66 rfl rfl rfl) ?_
  refine WL.val rfl (run_field (o' := 0) Try.underlying66 rfl ty3 rfl rfl rfl) ?_
  refine WL.val rfl (run_load1 ty3 rfl (hs.c1 (v := .int .i64 (gets : Nat)) rfl)) ?_
  refine WL.val rfl (run_add (c := ((gets + 1 : Nat) : Int)) rfl rfl (by omega) (by omega)) ?_
  refine WL.val rfl (run_nilCheck rfl) ?_
  refine WL.val rfl (run_field (o' := 5) Try.underlying83 rfl ty66 rfl rfl rfl) ?_
  refine WL.val rfl (run_field (o' := 0) Try.underlying66 rfl ty3 rfl rfl rfl) ?_
  refine WL.store1 ty3 rfl rfl (rfl) (hs.swap) (by first | (simp; done) | omega | (simp only [List.length_append, List.length_replicate, List.length_cons, List.length_nil, List.length_set]; omega) | (simp [Ent.cells, u8s]; done) | exact Nat.le_of_ble_eq_true rfl) (fun w hs => ?_)
  refine WL.nil ?_
  replace hs : Step [bs, m] [(bs, blk 83 (stC k cap used last m (gets + 1) puts)), (b3, blk 27 (u8s d)), (m, mapObj M clock)] w0 w := hs
  have hwh := fun {w : World} h1 h2 h3 => whole_yes (w0 := w) (m := m) (clock := clock) (bs := bs) (cap := cap) (used := used) (last := last) (gets := gets + 1) (puts := puts) h1 h2 hM hd hu hb' h3 hxr hsx hk1 hk
  simp only [decide_eq_true hbad] at hwh
  repeat (first | refine CW.seq ?_ | refine CW.block ?_)
  refine CW.reg ?_
  refine WL.val rfl (run_move) ?_
  refine WL.val rfl (run_loadN ty27 rfl hdl hs.a1) ?_
  refine WL.enter rfl (run_call en43 rfl rfl) (has_spec _ hs.hd (hs.get (o := mapObj M clock) (by simp)) hM hd hu hb') ?_
  rintro e w ⟨rfl, hq⟩
  refine ⟨_, rfl, ?_⟩
  replace hs := hs.callE hq
  refine WL.val rfl (run_not rfl) ?_
  refine WL.val rfl (run_assign) ?_
  refine WL.nil ?_
  refine CW.cond rfl (fun h => ?_) (fun h => ?_)
  · cases h
  refine CW.seq ?_
  refine CW.reg ?_
  refine WL.val rfl (run_move) ?_
  refine WL.val rfl (run_loadN ty27 rfl hdl hs.a1) ?_
  refine WL.enter rfl (run_call en16 rfl rfl) (hwh hs.hd (hs.get (o := mapObj M clock) (by simp)) (hx.step hs hxO)) ?_
  rintro e w ⟨rfl, hq⟩
  refine ⟨_, rfl, ?_⟩
  replace hs := hs.callE hq
  refine WL.val rfl (run_not rfl) ?_
  refine WL.val rfl (run_assign) ?_
  refine WL.nil ?_
  refine CW.cond rfl (fun h => ?_) (fun h => ?_)
  · cases h
  repeat (first | refine CW.seq ?_ | refine CW.skip ?_)
  refine CW.reg ?_
  refine WL.val rfl (run_move) ?_
  refine WL.val rfl (run_loadN ty27 rfl hdl hs.a1) ?_
  refine WL.enter rfl (run_call en17 rfl rfl) (raw_spec _ hs.hd (hs.get (o := mapObj M clock) (by simp)) hM hd hu hb' (hx.step hs hxO) hsx) ?_
  rintro e w ⟨v', Lv, rfl, hu', hq⟩
  refine ⟨_, rfl, ?_⟩
  replace hs := Step.append_comm (L2 := [_, _, _]) (Step.call0 hs hq)
  refine WL.val rfl (run_move) ?_
  refine WL.val rfl (run_extract rfl rfl) ?_
  refine WL.val rfl (run_extract rfl rfl) ?_
  refine WL.val rfl (run_assign) ?_
  refine WL.val rfl (run_assign) ?_
  refine WL.nil ?_
  refine CW.seq ?_
  refine CW.reg ?_
  refine WL.val rfl (run_move) ?_
  refine WL.val rfl (run_assign) ?_
  refine WL.val rfl (run_assign) ?_
  refine WL.nil ?_
  refine CW.ret ?_
  refine fin_ret2 rfl ?_
  exact ⟨v', Lv, rfl, hu', hs.swap.tail⟩
end
end Go.Gx
/-! Store12 -/
namespace Go.Gx
open Go.Proofs
set_option linter.unusedVariables false
set_option linter.unusedSimpArgs false
set_option maxRecDepth 100000
attribute [local irreducible] shaL cutD frontL
theorem bld_store (k c : Int) (m : Nat) (w : World) : (Instr.build 83 #[(0, .int .i64 k), (1, .int .i64 c), (4, .map (some m))]).run Try.prog w = .ok (.agg #[.int .i64 k, .int .i64 c, .int .i64 0, .int .i64 0, .map (some m), .int .i64 0, .int .i64 0]) w := by kernel_rfl
theorem new_width {k c : Int} (hk : k < 1 ∨ 32 < k) (w : World) : Calls Try.prog 20 #[.int .i64 k, .int .i64 c] w (Ret0 (.tuple #[.pointer none, .int .i64 3]) w) := by
  have hs : Step [] [] w w := Step.refl w
  refine calls (n := 25) Try.func20 rfl rfl rfl ?_
  repeat (first | refine CW.seq ?_ | refine CW.block ?_ | refine CW.skip ?_ | refine CW.label ?_ | refine CW.exit ?_ | refine CW.condT rfl ?_ | refine CW.condF rfl ?_)
  refine CW.reg ?_
  refine WL.val rfl (run_assign) ?_
  refine WL.val rfl (run_assign) ?_
  refine WL.nil ?_
  repeat (first | refine CW.seq ?_ | refine CW.block ?_ | refine CW.skip ?_ | refine CW.label ?_ | refine CW.exit ?_ | refine CW.condT rfl ?_ | refine CW.condF rfl ?_)
  refine CW.reg ?_
  refine WL.val rfl (run_build rfl ((bld_dig _))) ?_
  refine WL.val rfl (run_move) ?_
  refine WL.enter rfl (run_call en44 rfl rfl) (cut_bad zD_len hk _) ?_
  rintro e w ⟨rfl, hq⟩
  refine ⟨_, rfl, ?_⟩
  replace hs := hs.callE hq
  refine WL.val rfl (run_move) ?_
  refine WL.val rfl (run_extract rfl rfl) ?_
  refine WL.val rfl (run_extract rfl rfl) ?_
  refine WL.alloc ty27 rfl hs (fun b6 w hs => ?_)
  first | refine WL.storeAll ty27 rfl rfl ((by rfl)) (Cells1.u8s _) hs (by first | rfl | assumption) (fun w hs => ?_) | refine WL.storeAll_1 ty27 rfl rfl ((by rfl)) (Cells1.u8s _) hs (by first | rfl | assumption) (fun w hs => ?_) | refine WL.storeAll_2 ty27 rfl rfl ((by rfl)) (Cells1.u8s _) hs (by first | rfl | assumption) (fun w hs => ?_) | refine WL.storeAll_3 ty27 rfl rfl ((by rfl)) (Cells1.u8s _) hs (by first | rfl | assumption) (fun w hs => ?_) | refine WL.storeAll_4 ty27 rfl rfl ((by rfl)) (Cells1.u8s _) hs (by first | rfl | assumption) (fun w hs => ?_) | refine WL.storeAll ty27 rfl rfl ((by rfl)) (Cells1.u8s _) hs (by first | rfl | assumption) (fun w hs => ?_)
  refine WL.val rfl (run_assign) ?_
  refine WL.nil ?_
  repeat (first | refine CW.seq ?_ | refine CW.block ?_ | refine CW.skip ?_ | refine CW.label ?_ | refine CW.exit ?_ | refine CW.condT rfl ?_ | refine CW.condF rfl ?_)
  refine CW.reg ?_
  refine WL.val rfl (run_move) ?_
  refine WL.val rfl (run_bT (run_neq rfl rfl) (by decide)) ?_
  refine WL.nil ?_
  repeat (first | refine CW.seq ?_ | refine CW.block ?_ | refine CW.skip ?_ | refine CW.label ?_ | refine CW.exit ?_)
  first | refine CW.condP rfl (fun h => ?_) (fun h => ?_) | refine CW.cond rfl (fun h => ?_) (fun h => ?_)
  · repeat (first | refine CW.seq ?_ | refine CW.block ?_ | refine CW.skip ?_ | refine CW.label ?_ | refine CW.exit ?_ | refine CW.condT rfl ?_ | refine CW.condF rfl ?_)
    refine CW.reg ?_
    refine WL.val rfl (run_move) ?_
    refine WL.val rfl (run_assign) ?_
    refine WL.val rfl (run_assign) ?_
    refine WL.nil ?_
    repeat (first | refine CW.seq ?_ | refine CW.block ?_ | refine CW.skip ?_ | refine CW.label ?_ | refine CW.exit ?_ | refine CW.condT rfl ?_ | refine CW.condF rfl ?_)
    refine CW.ret ?_
    refine fin_ret2 rfl ?_
    exact ⟨rfl, hs.clear⟩
  · cases h
theorem new_arg {k : Nat} {c : Int} (hk1 : 1 ≤ k) (hk : k ≤ 32) (hc : ¬ (0 ≤ c ∧ c ≤ 67108864)) (w : World) : Calls Try.prog 20 #[.int .i64 k, .int .i64 c] w (Ret0 (.tuple #[.pointer none, .int .i64 1]) w) := by
  have hs : Step [] [] w w := Step.refl w
  have hcap := fun w => capable_spec c w
  simp only [decide_eq_false hc] at hcap
  have hcl : (u8s (cutD zD k)).length = 32 := by rw [u8s, List.length_map, cutD_len zD_len hk]
  refine calls (n := 25) Try.func20 rfl rfl rfl ?_
  repeat (first | refine CW.seq ?_ | refine CW.block ?_ | refine CW.skip ?_ | refine CW.label ?_ | refine CW.exit ?_ | refine CW.condT rfl ?_ | refine CW.condF rfl ?_)
  refine CW.reg ?_
  refine WL.val rfl (run_assign) ?_
  refine WL.val rfl (run_assign) ?_
  refine WL.nil ?_
  repeat (first | refine CW.seq ?_ | refine CW.block ?_ | refine CW.skip ?_ | refine CW.label ?_ | refine CW.exit ?_ | refine CW.condT rfl ?_ | refine CW.condF rfl ?_)
  refine CW.reg ?_
  refine WL.val rfl (run_build rfl ((bld_dig _))) ?_
  refine WL.val rfl (run_move) ?_
  refine WL.enter rfl (run_call en44 rfl rfl) (cut_ok zD_len hk1 hk _) ?_
  rintro e w ⟨rfl, hq⟩
  refine ⟨_, rfl, ?_⟩
  replace hs := hs.callE hq
  refine WL.val rfl (run_move) ?_
  refine WL.val rfl (run_extract rfl rfl) ?_
  refine WL.val rfl (run_extract rfl rfl) ?_
  refine WL.alloc ty27 rfl hs (fun b6 w hs => ?_)
  first | refine WL.storeAll ty27 rfl rfl ((hcl)) (Cells1.u8s _) hs (by first | rfl | assumption) (fun w hs => ?_) | refine WL.storeAll_1 ty27 rfl rfl ((hcl)) (Cells1.u8s _) hs (by first | rfl | assumption) (fun w hs => ?_) | refine WL.storeAll_2 ty27 rfl rfl ((hcl)) (Cells1.u8s _) hs (by first | rfl | assumption) (fun w hs => ?_) | refine WL.storeAll_3 ty27 rfl rfl ((hcl)) (Cells1.u8s _) hs (by first | rfl | assumption) (fun w hs => ?_) | refine WL.storeAll_4 ty27 rfl rfl ((hcl)) (Cells1.u8s _) hs (by first | rfl | assumption) (fun w hs => ?_) | refine WL.storeAll ty27 rfl rfl ((hcl)) (Cells1.u8s _) hs (by first | rfl | assumption) (fun w hs => ?_)
  refine WL.val rfl (run_assign) ?_
  refine WL.nil ?_
  repeat (first | refine CW.seq ?_ | refine CW.block ?_ | refine CW.skip ?_ | refine CW.label ?_ | refine CW.exit ?_ | refine CW.condT rfl ?_ | refine CW.condF rfl ?_)
  refine CW.reg ?_
  refine WL.val rfl (run_move) ?_
  refine WL.val rfl (run_bF (run_neq rfl rfl) (by decide)) ?_
  refine WL.nil ?_
  repeat (first | refine CW.seq ?_ | refine CW.block ?_ | refine CW.skip ?_ | refine CW.label ?_ | refine CW.exit ?_)
  first | refine CW.condP rfl (fun h => ?_) (fun h => ?_) | refine CW.cond rfl (fun h => ?_) (fun h => ?_)
  · cases h
  repeat (first | refine CW.seq ?_ | refine CW.block ?_ | refine CW.skip ?_ | refine CW.label ?_ | refine CW.exit ?_ | refine CW.condT rfl ?_ | refine CW.condF rfl ?_)
  refine CW.reg ?_
  refine WL.val rfl (run_move) ?_
  refine WL.enter rfl (run_call en45 rfl rfl) (hcap _) ?_
  rintro e w ⟨rfl, hq⟩
  refine ⟨_, rfl, ?_⟩
  replace hs := hs.callE hq
  first | refine WL.val rfl (run_notB rfl) ?_ | refine WL.val rfl (run_not rfl) ?_
  refine WL.nil ?_
  repeat (first | refine CW.seq ?_ | refine CW.block ?_ | refine CW.skip ?_ | refine CW.label ?_ | refine CW.exit ?_)
  first | refine CW.condP rfl (fun h => ?_) (fun h => ?_) | refine CW.cond rfl (fun h => ?_) (fun h => ?_)
  · repeat (first | refine CW.seq ?_ | refine CW.block ?_ | refine CW.skip ?_ | refine CW.label ?_ | refine CW.exit ?_ | refine CW.condT rfl ?_ | refine CW.condF rfl ?_)
    refine CW.reg ?_
    refine WL.val rfl (run_assign) ?_
    refine WL.val rfl (run_assign) ?_
    refine WL.nil ?_
    repeat (first | refine CW.seq ?_ | refine CW.block ?_ | refine CW.skip ?_ | refine CW.label ?_ | refine CW.exit ?_ | refine CW.condT rfl ?_ | refine CW.condF rfl ?_)
    refine CW.ret ?_
    refine fin_ret2 rfl ?_
    exact ⟨rfl, hs.clear⟩
  · cases h
theorem new_ok {k c : Nat} (hk1 : 1 ≤ k) (hk : k ≤ 32) (hc : c ≤ 67108864) (w : World) : Calls Try.prog 20 #[.int .i64 k, .int .i64 c] w (fun e w' => ∃ bs m, e = .returned (.tuple #[.pointer (some ⟨bs, 0, none⟩), .int .i64 0]) ∧ Step [] [(bs, blk 83 (stC k c 0 0 m 0 0)), (m, mapObj [] 0)] w w') := by
  have hs : Step [] [] w w := Step.refl w
  have hcap := fun w => capable_spec (c : Int) w
  have hc' : (0 : Int) ≤ c ∧ (c : Int) ≤ 67108864 := by omega
  simp only [decide_eq_true hc'] at hcap
  have hcl : (u8s (cutD zD k)).length = 32 := by rw [u8s, List.length_map, cutD_len zD_len hk]
  refine calls (n := 25) Try.func20 rfl rfl rfl ?_
  repeat (first | refine CW.seq ?_ | refine CW.block ?_ | refine CW.skip ?_ | refine CW.label ?_ | refine CW.exit ?_ | refine CW.condT rfl ?_ | refine CW.condF rfl ?_)
  refine CW.reg ?_
  refine WL.val rfl (run_assign) ?_
  refine WL.val rfl (run_assign) ?_
  refine WL.nil ?_
  repeat (first | refine CW.seq ?_ | refine CW.block ?_ | refine CW.skip ?_ | refine CW.label ?_ | refine CW.exit ?_ | refine CW.condT rfl ?_ | refine CW.condF rfl ?_)
  refine CW.reg ?_
  refine WL.val rfl (run_build rfl ((bld_dig _))) ?_
  refine WL.val rfl (run_move) ?_
  refine WL.enter rfl (run_call en44 rfl rfl) (cut_ok zD_len hk1 hk _) ?_
  rintro e w ⟨rfl, hq⟩
  refine ⟨_, rfl, ?_⟩
  replace hs := hs.callE hq
  refine WL.val rfl (run_move) ?_
  refine WL.val rfl (run_extract rfl rfl) ?_
  refine WL.val rfl (run_extract rfl rfl) ?_
  refine WL.alloc ty27 rfl hs (fun b6 w hs => ?_)
  first | refine WL.storeAll ty27 rfl rfl ((hcl)) (Cells1.u8s _) hs (by first | rfl | assumption) (fun w hs => ?_) | refine WL.storeAll_1 ty27 rfl rfl ((hcl)) (Cells1.u8s _) hs (by first | rfl | assumption) (fun w hs => ?_) | refine WL.storeAll_2 ty27 rfl rfl ((hcl)) (Cells1.u8s _) hs (by first | rfl | assumption) (fun w hs => ?_) | refine WL.storeAll_3 ty27 rfl rfl ((hcl)) (Cells1.u8s _) hs (by first | rfl | assumption) (fun w hs => ?_) | refine WL.storeAll_4 ty27 rfl rfl ((hcl)) (Cells1.u8s _) hs (by first | rfl | assumption) (fun w hs => ?_) | refine WL.storeAll ty27 rfl rfl ((hcl)) (Cells1.u8s _) hs (by first | rfl | assumption) (fun w hs => ?_)
  refine WL.val rfl (run_assign) ?_
  refine WL.nil ?_
  repeat (first | refine CW.seq ?_ | refine CW.block ?_ | refine CW.skip ?_ | refine CW.label ?_ | refine CW.exit ?_ | refine CW.condT rfl ?_ | refine CW.condF rfl ?_)
  refine CW.reg ?_
  refine WL.val rfl (run_move) ?_
  refine WL.val rfl (run_bF (run_neq rfl rfl) (by decide)) ?_
  refine WL.nil ?_
  repeat (first | refine CW.seq ?_ | refine CW.block ?_ | refine CW.skip ?_ | refine CW.label ?_ | refine CW.exit ?_)
  first | refine CW.condP rfl (fun h => ?_) (fun h => ?_) | refine CW.cond rfl (fun h => ?_) (fun h => ?_)
  · cases h
  repeat (first | refine CW.seq ?_ | refine CW.block ?_ | refine CW.skip ?_ | refine CW.label ?_ | refine CW.exit ?_ | refine CW.condT rfl ?_ | refine CW.condF rfl ?_)
  refine CW.reg ?_
  refine WL.val rfl (run_move) ?_
  refine WL.enter rfl (run_call en45 rfl rfl) (hcap _) ?_
  rintro e w ⟨rfl, hq⟩
  refine ⟨_, rfl, ?_⟩
  replace hs := hs.callE hq
  first | refine WL.val rfl (run_notB rfl) ?_ | refine WL.val rfl (run_not rfl) ?_
  refine WL.nil ?_
  repeat (first | refine CW.seq ?_ | refine CW.block ?_ | refine CW.skip ?_ | refine CW.label ?_ | refine CW.exit ?_)
  first | refine CW.condP rfl (fun h => ?_) (fun h => ?_) | refine CW.cond rfl (fun h => ?_) (fun h => ?_)
  · cases h
  repeat (first | refine CW.seq ?_ | refine CW.block ?_ | refine CW.skip ?_ | refine CW.label ?_ | refine CW.exit ?_ | refine CW.condT rfl ?_ | refine CW.condF rfl ?_)
  refine CW.reg ?_
  refine WL.val rfl (run_move) ?_
  refine WL.val rfl (run_move) ?_
  refine WL.makeMapD rfl hs (fun b22 w hs => ?_)
  refine WL.val rfl (run_build rfl ((bld_store _ _ _ _))) ?_
  refine WL.box (cs := stC k c 0 0 b22 0 0) rfl rfl rfl hs (fun b24 w hs => ?_)
  refine WL.val rfl (run_assign) ?_
  refine WL.val rfl (run_assign) ?_
  refine WL.nil ?_
  repeat (first | refine CW.seq ?_ | refine CW.block ?_ | refine CW.skip ?_ | refine CW.label ?_ | refine CW.exit ?_ | refine CW.condT rfl ?_ | refine CW.condF rfl ?_)
  refine CW.ret ?_
  refine fin_ret2 rfl ?_
  exact ⟨b24, b22, rfl, hs.dropR (L1 := [_, _])⟩
end Go.Gx
/-! MapR -/
namespace Go.Gx
open Go.Proofs
set_option linter.unusedVariables false
set_option linter.unusedSimpArgs false
set_option maxRecDepth 100000
abbrev MEnt := List UInt8 × Value × Nat
def entO (p : MEnt) : MapEntry := { key := .agg (u8s p.1).toArray, val := p.2.1, born := p.2.2 }
theorem ents_map (M : List MEnt) : ents M = M.map entO := rfl
structure Born (M : List MEnt) (clock : Nat) : Prop where
  lt : ∀ p ∈ M, p.2.2 < clock
  nodup : (M.map (·.2.2)).Nodup
def iterO (m since : Nat) (done : List MEnt) : Obj := .mapIter (some m) since (List.map (fun (p : MEnt) => p.2.2) done).toArray since
section
variable {P : Program} {w : World} {r m clock : Nat} {M done left : List MEnt}
theorem leftOf_mem {M : List MEnt} {seen : Array Nat} {e : MapEntry} : e ∈ (leftOf (ents M).toArray seen).toList ↔ ∃ p ∈ M, e = entO p ∧ p.2.2 ∉ seen := by
  simp only [leftOf, ents_map, Array.toList_filter, List.mem_filter, List.mem_map]
  constructor
  · rintro ⟨⟨p, hp, rfl⟩, h⟩
    exact ⟨p, hp, rfl, by simpa [entO] using h⟩
  · rintro ⟨p, hp, rfl, h⟩
    exact ⟨⟨p, hp, rfl⟩, by simpa [entO] using h⟩
theorem born_parted (hB : Born M clock) (hp : (done ++ left).Perm M) {p : MEnt} (hm : p ∈ M) : p.2.2 ∉ (List.map (fun (p : MEnt) => p.2.2) done).toArray ↔ p ∈ left := by
  have hn : ((done ++ left).map (·.2.2)).Nodup := (hp.map _).nodup_iff.2 hB.nodup
  rw [List.map_append, List.nodup_append] at hn
  have hin := hp.mem_iff.2 hm
  rw [List.mem_append] at hin
  constructor
  · intro h
    rcases hin with h1 | h1
    · exact absurd (by simpa using ⟨p.1, p.2.1, h1⟩) h
    · exact h1
  · intro h hd
    have hd' : p.2.2 ∈ done.map (·.2.2) := by simpa using hd
    exact hn.2.2 _ hd' _ (List.mem_map_of_mem h) rfl
theorem run_nextM (ty : TypeId) (hB : Born M clock) (hr : w.heap[r]? = some (iterO m clock done)) (hm : w.heap[m]? = some (mapObj M clock)) (hp : (done ++ left).Perm M) :
    (left = [] ∧ (Instr.next (.pointer (some ⟨r, 0, none⟩)) false ty).run P w = .ok (.tuple #[.bool false]) w) ∨
    ∃ p left' w1, left.Perm (p :: left') ∧ (w1 = w ∨ w1 = w.drew) ∧ (Instr.next (.pointer (some ⟨r, 0, none⟩)) false ty).run P w = .ok (.tuple #[.bool true, .agg (u8s p.1).toArray, p.2.1]) { w1 with heap := w1.heap.setIfInBounds r (iterO m clock (done ++ [p])) } := by
  have hold : ∀ x ∈ (ents M).toArray.toList, x.born < clock := by
    intro x hx
    simp only [ents_map, List.mem_map] at hx
    obtain ⟨p, hp, rfl⟩ := hx
    exact hB.lt p hp
  rcases run_next_at (P := P) w ty r m clock clock (List.map (fun (p : MEnt) => p.2.2) done).toArray (ents M).toArray clock hr hm hold (Nat.le_refl _) with ⟨h0, h⟩ | ⟨e, he, w1, hw, h⟩
  · refine .inl ⟨?_, h⟩
    cases hl : left with
    | nil => rfl
    | cons q l =>
      have hq : q ∈ M := hp.mem_iff.1 (by rw [hl]; simp)
      have h1 := (born_parted hB hp hq).2 (by rw [hl]; simp)
      have h2 : entO q ∈ (leftOf (ents M).toArray (List.map (fun (p : MEnt) => p.2.2) done).toArray).toList := leftOf_mem.2 ⟨q, hq, rfl, h1⟩
      have h3 : (leftOf (ents M).toArray (List.map (fun (p : MEnt) => p.2.2) done).toArray).toList = [] := by
        apply List.eq_nil_of_length_eq_zero; simpa using h0
      rw [h3] at h2
      cases h2
  · have hobt := leftOf_mem.1 he
    obtain ⟨p, hpm, rfl, hns⟩ := hobt
    have hl := (born_parted hB hp hpm).1 hns
    have hobt := List.append_of_mem hl
    obtain ⟨a, b, rfl⟩ := hobt
    refine .inr ⟨p, a ++ b, w1, List.perm_middle, hw, ?_⟩
    rw [h]
    simp [ChangeMaps.setBlock, iterO, entO]
theorem run_entryAtM (hB : Born M clock) {p : MEnt} (hr : w.heap[r]? = some (iterO m clock (done ++ [p]))) (hm : w.heap[m]? = some (mapObj M clock)) (hp : p ∈ M) :
    (Instr.entry (.pointer (some ⟨r, 0, none⟩))).run P w = .ok (.tuple #[.agg (u8s p.1).toArray, p.2.1]) w := by
  have h := run_entry_at (P := P) w r m clock (List.map (fun (p : MEnt) => p.2.2) done).toArray (ents M).toArray clock (entO p) (by rw [hr]; simp [iterO, entO]) hm (by simp only [ents_map]; exact List.mem_map_of_mem hp) (by simpa [ents_map, entO, Function.comp_def] using hB.nodup)
  exact h
end
section
variable {P : Program} {ops : Array Oper} {n d : Nat} {rest : List Oper} {f : Slots} {ds : List Deferred} {w w0 : World} {S : List Nat} {L : List (Nat × Obj)} {Q : Post} {ty : TypeId} {pos : String} {af : Array Edge} {x : Operand} {T K E : TypeId} {m clock it : Nat} {M done left : List MEnt} {dd : Option Tmp}
theorem WL.rangeM (ht : P.underlying T = some (.map K E)) (hx : ev f x = .map (some m)) (hm : w.heap[m]? = some (mapObj M clock)) (hd : Nat.blt d n = true) (hs : Step S L w0 w)
    (h : ∀ b w', Step S ((b, iterO m clock []) :: L) w0 w' → WL P ops Q n rest (upd f d (.pointer (some ⟨b, 0, none⟩))) ds w') : WL P ops Q n (⟨some d, .range T x, ty, pos, af, none⟩ :: rest) f ds w := by
  refine WL.val hd (v := .pointer (some ⟨w.heap.size, 0, none⟩)) (w' := w.alloc (iterO m clock [])) ?_ (h _ _ (hs.alloc _))
  have hg := MapKept.run_getObj_map (P := P) hm
  simp [execOp, hx, Instr.range, run_underlying ht, hg, iterO]
theorem WL.nextM (hx : ev f x = .pointer (some ⟨it, 0, none⟩)) (hd : Nat.blt d n = true) (hs : Step S ((it, iterO m clock done) :: L) w0 w) (hm : w.heap[m]? = some (mapObj M clock)) (hB : Born M clock) (hp : (done ++ left).Perm M) (hne : left ≠ [])
    (h : ∀ p left' w', left.Perm (p :: left') → ((done ++ [p]) ++ left').Perm M → Step S ((it, iterO m clock (done ++ [p])) :: L) w0 w' → WL P ops Q n rest (upd f d (.tuple #[.bool true, .agg (u8s p.1).toArray, p.2.1])) ds w') :
    WL P ops Q n (⟨some d, .next x false, ty, pos, af, none⟩ :: rest) f ds w := by
  rcases run_nextM (P := P) ty hB hs.hd hm hp with ⟨h0, _⟩ | ⟨p, left', w1, hl, hw, hrun⟩
  · exact absurd h0 hne
  · have hs1 : Step S ((it, iterO m clock done) :: L) w0 w1 := by rcases hw with rfl | rfl; exact hs; exact hs.drew
    have hp' : ((done ++ [p]) ++ left').Perm M := by
      rw [List.append_assoc]
      exact (hl.symm.append_left done).trans hp
    refine WL.val hd ?_ (h p left' _ hl hp' (hs1.setO _))
    simp only [execOp, hx, Sem.run_bind, hrun, Result.andThen_ok]
    rfl
theorem run_nextMEnd (hx : ev f x = .pointer (some ⟨it, 0, none⟩)) (hr : w.heap[it]? = some (iterO m clock done)) (hm : w.heap[m]? = some (mapObj M clock)) (hB : Born M clock) (hp : (done ++ []).Perm M) :
    (execOp (ev f) ⟨dd, .next x false, ty, pos, af, none⟩).run P w = .ok (.value (.tuple #[.bool false])) w := by
  rcases run_nextM (P := P) ty hB hr hm hp with ⟨h0, h⟩ | ⟨p, left', w1, hl, hw, hrun⟩
  · simp only [execOp, hx, Sem.run_bind, h, Result.andThen_ok]
    rfl
  · simp at hl
theorem run_entryM (hx : ev f x = .pointer (some ⟨it, 0, none⟩)) {p : MEnt} (hr : w.heap[it]? = some (iterO m clock (done ++ [p]))) (hm : w.heap[m]? = some (mapObj M clock)) (hB : Born M clock) (hp : p ∈ M) :
    (execOp (ev f) ⟨dd, .entry x, ty, pos, af, none⟩).run P w = .ok (.value (.tuple #[.agg (u8s p.1).toArray, p.2.1])) w := by
  have h := run_entryAtM (P := P) hB hr hm hp
  simp only [execOp, hx, Sem.run_bind, h, Result.andThen_ok]
  rfl
end
end Go.Gx
/-! Store13 -/
namespace Go.Gx
open Go.Proofs
set_option linter.unusedVariables false
set_option linter.unusedSimpArgs false
set_option maxRecDepth 100000
def BlobV (v : Value) : Prop := ∃ a n c st, v = .agg #[.slice a n c, .int .i64 st]
def twinM : List MEnt → Nat → List MEnt
  | [], _ => []
  | p :: M, i => (p.1, p.2.1, i) :: twinM M (i + 1)
theorem twinM_snoc : ∀ (M : List MEnt) (i : Nat) (p : MEnt), twinM (M ++ [p]) i = twinM M i ++ [(p.1, p.2.1, i + M.length)]
  | [], i, p => rfl
  | q :: M, i, p => by
    rw [List.cons_append, twinM, twinM_snoc, twinM, List.cons_append, List.length_cons, show i + 1 + M.length = i + (M.length + 1) by omega]
theorem twinM_fst : ∀ (M : List MEnt) (i : Nat), (twinM M i).map (fun p => (p.1, p.2.1)) = M.map (fun p => (p.1, p.2.1))
  | [], _ => rfl
  | p :: M, i => by rw [twinM, List.map_cons, List.map_cons, twinM_fst M (i + 1)]
theorem twinM_ge : ∀ (M : List MEnt) (i : Nat), ∀ p ∈ twinM M i, i ≤ p.2.2 ∧ p.2.2 < i + M.length
  | [], _, p, h => by cases h
  | q :: M, i, p, h => by
    rw [twinM] at h
    rcases List.mem_cons.1 h with rfl | h
    · simp
    · have := twinM_ge M (i + 1) p h
      simp only [List.length_cons]
      omega
theorem twinM_nodup : ∀ (M : List MEnt) (i : Nat), ((twinM M i).map (fun p => p.2.2)).Nodup
  | [], _ => by simp [twinM]
  | q :: M, i => by
    rw [twinM, List.map_cons, List.nodup_cons]
    refine ⟨fun h => ?_, twinM_nodup M (i + 1)⟩
    have hobt := List.mem_map.1 h
    obtain ⟨p, hp, he⟩ := hobt
    have := (twinM_ge M (i + 1) p hp).1
    simp only at he
    omega
theorem twinM_born (M : List MEnt) : Born (twinM M 0) M.length := ⟨fun p hp => by have := twinM_ge M 0 p hp; omega, twinM_nodup M 0⟩
theorem findD_none {d : List UInt8} : ∀ {M : List MEnt} {i : Nat}, d ∉ M.map (fun p => p.1) → findD d M i = none
  | [], _, _ => rfl
  | p :: M, i, h => by
    simp only [List.map_cons, List.mem_cons, not_or] at h
    rw [findD, if_neg h.1, findD_none h.2]
theorem twin_spec {bs k cap used last m gets puts clock : Nat} {M : List MEnt} (w0 : World) (hb : w0.heap[bs]? = some (blk 83 (stC k cap used last m gets puts))) (hm : w0.heap[m]? = some (mapObj M clock))
    (hM : Keys32 M) (hB : Born M clock) (hK : (M.map (fun p => p.1)).Nodup) (hV : ∀ p ∈ M, BlobV p.2.1) :
    Calls Try.prog 37 #[.pointer (some ⟨bs, 0, none⟩)] w0 (fun e w' => ∃ bt m2 M2, e = .returned (.pointer (some ⟨bt, 0, none⟩)) ∧ (M2.map (fun p => (p.1, p.2.1))).Perm (M.map (fun p => (p.1, p.2.1))) ∧ Born M2 M2.length ∧ Step [] [(bt, blk 83 (stC k cap used last m2 gets puts)), (m2, mapObj M2 M2.length)] w0 w') := by
  have hs : Step [] [] w0 w0 := Step.refl w0
  have hat : At w0 bs 0 (stC k cap used last m gets puts) := At.of_blk hb
  refine calls (n := 25) Try.func37 rfl rfl rfl ?_
  repeat (first | refine CW.seq ?_ | refine CW.block ?_ | refine CW.skip ?_ | refine CW.label ?_ | refine CW.exit ?_ | refine CW.condT rfl ?_ | refine CW.condF rfl ?_)
  refine CW.reg ?_
  refine WL.val rfl (run_assign) ?_
  refine WL.nil ?_
  repeat (first | refine CW.seq ?_ | refine CW.block ?_ | refine CW.skip ?_ | refine CW.label ?_ | refine CW.exit ?_ | refine CW.condT rfl ?_ | refine CW.condF rfl ?_)
  refine CW.reg ?_
  refine WL.val rfl (run_move) ?_
  refine WL.val rfl (run_nilCheck rfl) ?_
  refine WL.val rfl (run_loadN ty83 rfl (cs := stC k cap used last m gets puts) (by rfl) (hat.step hs (by simp))) ?_
  refine WL.alloc ty83 rfl hs (fun b3 w hs => ?_)
  first | refine WL.storeAll ty83 rfl rfl ((by rfl)) (Cells1.of_all rfl) hs (by first | rfl | assumption) (fun w hs => ?_) | refine WL.storeAll_1 ty83 rfl rfl ((by rfl)) (Cells1.of_all rfl) hs (by first | rfl | assumption) (fun w hs => ?_) | refine WL.storeAll_2 ty83 rfl rfl ((by rfl)) (Cells1.of_all rfl) hs (by first | rfl | assumption) (fun w hs => ?_) | refine WL.storeAll_3 ty83 rfl rfl ((by rfl)) (Cells1.of_all rfl) hs (by first | rfl | assumption) (fun w hs => ?_) | refine WL.storeAll_4 ty83 rfl rfl ((by rfl)) (Cells1.of_all rfl) hs (by first | rfl | assumption) (fun w hs => ?_) | refine WL.storeAll ty83 rfl rfl ((by rfl)) (Cells1.of_all rfl) hs (by first | rfl | assumption) (fun w hs => ?_)
  refine WL.nil ?_
  repeat (first | refine CW.seq ?_ | refine CW.block ?_ | refine CW.skip ?_ | refine CW.label ?_ | refine CW.exit ?_ | refine CW.condT rfl ?_ | refine CW.condF rfl ?_)
  refine CW.reg ?_
  refine WL.makeMapD rfl hs (fun b9 w hs => ?_)
  refine WL.val rfl (run_field (o' := 4) Try.underlying83 rfl ty81 rfl rfl rfl) ?_
  first | refine WL.store1 ty81 rfl rfl (rfl) hs (by first | (simp; done) | omega | (simp only [List.length_append, List.length_replicate, List.length_cons, List.length_nil, List.length_set]; omega) | (simp [Ent.cells, u8s]; done) | exact Nat.le_of_ble_eq_true rfl) (fun w hs => ?_) | refine WL.store1_1 ty81 rfl rfl (rfl) hs (by first | (simp; done) | omega | (simp only [List.length_append, List.length_replicate, List.length_cons, List.length_nil, List.length_set]; omega) | (simp [Ent.cells, u8s]; done) | exact Nat.le_of_ble_eq_true rfl) (fun w hs => ?_) | refine WL.store1_2 ty81 rfl rfl (rfl) hs (by first | (simp; done) | omega | (simp only [List.length_append, List.length_replicate, List.length_cons, List.length_nil, List.length_set]; omega) | (simp [Ent.cells, u8s]; done) | exact Nat.le_of_ble_eq_true rfl) (fun w hs => ?_) | refine WL.store1_3 ty81 rfl rfl (rfl) hs (by first | (simp; done) | omega | (simp only [List.length_append, List.length_replicate, List.length_cons, List.length_nil, List.length_set]; omega) | (simp [Ent.cells, u8s]; done) | exact Nat.le_of_ble_eq_true rfl) (fun w hs => ?_) | refine WL.store1_4 ty81 rfl rfl (rfl) hs (by first | (simp; done) | omega | (simp only [List.length_append, List.length_replicate, List.length_cons, List.length_nil, List.length_set]; omega) | (simp [Ent.cells, u8s]; done) | exact Nat.le_of_ble_eq_true rfl) (fun w hs => ?_) | refine WL.store1 ty81 rfl rfl (rfl) hs (by first | (simp; done) | omega | (simp only [List.length_append, List.length_replicate, List.length_cons, List.length_nil, List.length_set]; omega) | (simp [Ent.cells, u8s]; done) | exact Nat.le_of_ble_eq_true rfl) (fun w hs => ?_)
  refine WL.nil ?_
  replace hs : Step [] [(b3, blk 83 (stC k cap used last b9 gets puts)), (b9, mapObj [] 0)] w0 w := by first | exact hs | exact hs.swap
  repeat (first | refine CW.seq ?_ | refine CW.block ?_ | refine CW.skip ?_ | refine CW.label ?_ | refine CW.exit ?_ | refine CW.condT rfl ?_ | refine CW.condF rfl ?_)
  refine CW.reg ?_
  refine WL.val rfl (run_move) ?_
  refine WL.val rfl (run_nilCheck rfl) ?_
  refine WL.val rfl (run_field (o' := 4) Try.underlying83 rfl ty81 rfl rfl rfl) ?_
  refine WL.val rfl (run_load1 ty81 rfl ((hat.step hs.clear (by simp)).cell (j := 4) rfl)) ?_
  refine WL.rangeM Try.underlying81 rfl (hs.old hm (by simp)) rfl hs (fun b15 w hs => ?_)
  refine WL.nil ?_
  repeat (first | refine CW.seq ?_ | refine CW.block ?_ | refine CW.skip ?_ | refine CW.label ?_ | refine CW.exit ?_ | refine CW.condT rfl ?_ | refine CW.condF rfl ?_)
  refine CW.loop (fun mm f w' => ∃ done left, mm = left.length ∧ (done ++ left).Perm M ∧ Step [] [(b15, iterO m clock done), (b3, blk 83 (stC k cap used last b9 gets puts)), (b9, mapObj (twinM done 0) done.length)] w0 w' ∧ Holds f [(0, .pointer (some ⟨bs, 0, none⟩)), (3, .pointer (some ⟨b3, 0, none⟩)), (15, .pointer (some ⟨b15, 0, none⟩))]) (m := M.length) ?_ ?_
  · exact ⟨[], M, rfl, List.Perm.refl _, hs, rfl, rfl, rfl, trivial⟩
  · rintro mm f w ⟨done, left, rfl, hperm, hs, hf⟩
    have hobt := hf.chain
    obtain ⟨g, rfl⟩ := hobt
    by_cases hne : left = []
    · subst hne
      repeat (first | refine CW.seq ?_ | refine CW.block ?_ | refine CW.skip ?_ | refine CW.label ?_ | refine CW.exit ?_ | refine CW.condT rfl ?_ | refine CW.condF rfl ?_)
      refine CW.reg ?_
      refine WL.val rfl (run_nextMEnd rfl hs.hd (hs.old hm (by simp)) hB hperm) ?_
      refine WL.val rfl (run_extract rfl rfl) ?_
      refine WL.nil ?_
      repeat (first | refine CW.seq ?_ | refine CW.block ?_ | refine CW.skip ?_ | refine CW.label ?_ | refine CW.exit ?_)
      first | refine CW.condP rfl (fun h => ?_) (fun h => ?_) | refine CW.cond rfl (fun h => ?_) (fun h => ?_)
      · cases h
      repeat (first | refine CW.seq ?_ | refine CW.block ?_ | refine CW.skip ?_ | refine CW.label ?_ | refine CW.exit ?_ | refine CW.condT rfl ?_ | refine CW.condF rfl ?_)
      refine CW.reg ?_
      refine WL.val rfl (run_assign) ?_
      refine WL.nil ?_
      repeat (first | refine CW.seq ?_ | refine CW.block ?_ | refine CW.skip ?_ | refine CW.label ?_ | refine CW.exit ?_ | refine CW.condT rfl ?_ | refine CW.condF rfl ?_)
      refine CW.ret ?_
      refine fin_ret1 rfl ?_
      rw [List.append_nil] at hperm
      refine ⟨b3, b9, twinM done 0, rfl, ?_, ?_, ?_⟩
      · rw [twinM_fst]; exact hperm.map _
      · have hl : (twinM done 0).length = done.length := by have := congrArg List.length (twinM_fst done 0); simpa using this
        rw [hl]; exact twinM_born done
      · have hl : (twinM done 0).length = done.length := by have := congrArg List.length (twinM_fst done 0); simpa using this
        rw [hl]; exact hs.tail
    · repeat (first | refine CW.seq ?_ | refine CW.block ?_ | refine CW.skip ?_ | refine CW.label ?_ | refine CW.exit ?_ | refine CW.condT rfl ?_ | refine CW.condF rfl ?_)
      refine CW.reg ?_
      refine WL.nextM rfl rfl hs (hs.old hm (by simp)) hB hperm hne (fun p left' w hleft hperm hs => ?_)
      refine WL.val rfl (run_extract rfl rfl) ?_
      refine WL.nil ?_
      have hpM : p ∈ M := hperm.mem_iff.1 (by simp)
      have hpv := hV p hpM
      obtain ⟨pd, pv, pb⟩ := p
      obtain ⟨a, nn, c, st, rfl⟩ := hpv
      have hpd : pd.length = 32 := hM _ hpM
      have hdl : (u8s pd).length = 32 := by rw [u8s, List.length_map, hpd]
      have hlen : left.length = left'.length + 1 := by rw [hleft.length_eq]; rfl
      repeat (first | refine CW.seq ?_ | refine CW.block ?_ | refine CW.skip ?_ | refine CW.label ?_ | refine CW.exit ?_)
      first | refine CW.condP rfl (fun h => ?_) (fun h => ?_) | refine CW.cond rfl (fun h => ?_) (fun h => ?_)
      · have hnd : pd ∉ (twinM done 0).map (fun p => p.1) := by
          have e : (twinM done 0).map (fun p => p.1) = done.map (fun p => p.1) := by
            have := congrArg (List.map Prod.fst) (twinM_fst done 0)
            simpa [List.map_map, Function.comp_def] using this
          rw [e]
          have h1 := (hperm.map (fun p : MEnt => p.1)).nodup_iff.2 hK
          simp only [List.map_append, List.nodup_append, List.map_cons, List.map_nil] at h1
          intro hc
          exact h1.1.2.2 _ hc _ (by simp) rfl
        have hK9 : Keys32 (twinM done 0) := by
          intro q hq
          have h1 : (q.1, q.2.1) ∈ done.map (fun p => (p.1, p.2.1)) := by rw [← twinM_fst done 0]; exact List.mem_map.2 ⟨q, hq, rfl⟩
          have hobt := List.mem_map.1 h1
          obtain ⟨q', hq', he⟩ := hobt
          have := hM q' (hperm.mem_iff.1 (by simp [hq']))
          simp only [Prod.mk.injEq] at he
          rw [← he.1]; exact this
        have hVc : Cells1 [Value.slice a nn c, .int .i64 st] := Cells1.of_all rfl
        repeat (first | refine CW.seq ?_ | refine CW.block ?_ | refine CW.skip ?_ | refine CW.label ?_ | refine CW.exit ?_ | refine CW.condT rfl ?_ | refine CW.condF rfl ?_)
        refine CW.reg ?_
        refine WL.val rfl (run_entryM rfl hs.hd (hs.old hm (by simp)) hB hpM) ?_
        refine WL.val rfl (run_extract rfl rfl) ?_
        refine WL.val rfl (run_extract rfl rfl) ?_
        refine WL.alloc ty27 rfl hs (fun b4 w hs => ?_)
        refine WL.alloc ty85 rfl hs (fun b5 w hs => ?_)
        first | refine WL.storeAll ty27 rfl rfl ((hdl)) (Cells1.u8s _) hs (by first | rfl | assumption) (fun w hs => ?_) | refine WL.storeAll_1 ty27 rfl rfl ((hdl)) (Cells1.u8s _) hs (by first | rfl | assumption) (fun w hs => ?_) | refine WL.storeAll_2 ty27 rfl rfl ((hdl)) (Cells1.u8s _) hs (by first | rfl | assumption) (fun w hs => ?_) | refine WL.storeAll_3 ty27 rfl rfl ((hdl)) (Cells1.u8s _) hs (by first | rfl | assumption) (fun w hs => ?_) | refine WL.storeAll_4 ty27 rfl rfl ((hdl)) (Cells1.u8s _) hs (by first | rfl | assumption) (fun w hs => ?_) | refine WL.storeAll ty27 rfl rfl ((hdl)) (Cells1.u8s _) hs (by first | rfl | assumption) (fun w hs => ?_)
        first | refine WL.storeAll ty85 rfl rfl ((by rfl)) (Cells1.of_all rfl) hs (by first | rfl | assumption) (fun w hs => ?_) | refine WL.storeAll_1 ty85 rfl rfl ((by rfl)) (Cells1.of_all rfl) hs (by first | rfl | assumption) (fun w hs => ?_) | refine WL.storeAll_2 ty85 rfl rfl ((by rfl)) (Cells1.of_all rfl) hs (by first | rfl | assumption) (fun w hs => ?_) | refine WL.storeAll_3 ty85 rfl rfl ((by rfl)) (Cells1.of_all rfl) hs (by first | rfl | assumption) (fun w hs => ?_) | refine WL.storeAll_4 ty85 rfl rfl ((by rfl)) (Cells1.of_all rfl) hs (by first | rfl | assumption) (fun w hs => ?_) | refine WL.storeAll ty85 rfl rfl ((by rfl)) (Cells1.of_all rfl) hs (by first | rfl | assumption) (fun w hs => ?_)
        refine WL.nil ?_
        repeat (first | refine CW.seq ?_ | refine CW.block ?_ | refine CW.skip ?_ | refine CW.label ?_ | refine CW.exit ?_ | refine CW.condT rfl ?_ | refine CW.condF rfl ?_)
        refine CW.reg ?_
        refine WL.val rfl (run_field (o' := 4) Try.underlying83 rfl ty81 rfl rfl rfl) ?_
        first | refine WL.val rfl (run_load1 ty81 rfl (hs.c0 rfl)) ?_ | refine WL.val rfl (run_load1 ty81 rfl (hs.c1 rfl)) ?_ | refine WL.val rfl (run_load1 ty81 rfl (hs.c2 rfl)) ?_ | refine WL.val rfl (run_load1 ty81 rfl (hs.c3 rfl)) ?_ | refine WL.val rfl (run_load1 ty81 rfl (hs.c4 rfl)) ?_ | refine WL.val rfl (run_load1 ty81 rfl (hs.c5 rfl)) ?_ | refine WL.val rfl (run_load1 ty81 rfl (hs.c0 rfl)) ?_
        first | refine WL.val rfl (run_loadN ty27 rfl (by first | rfl | assumption | (simp; done)) hs.a0) ?_ | refine WL.val rfl (run_loadN ty27 rfl (by first | rfl | assumption | (simp; done)) hs.a1) ?_ | refine WL.val rfl (run_loadN ty27 rfl (by first | rfl | assumption | (simp; done)) hs.a2) ?_ | refine WL.val rfl (run_loadN ty27 rfl (by first | rfl | assumption | (simp; done)) hs.a3) ?_ | refine WL.val rfl (run_loadN ty27 rfl (by first | rfl | assumption | (simp; done)) hs.a4) ?_ | refine WL.val rfl (run_loadN ty27 rfl (by first | rfl | assumption | (simp; done)) hs.a5) ?_ | refine WL.val rfl (run_loadN ty27 rfl (by first | rfl | assumption | (simp; done)) hs.a0) ?_
        first | refine WL.val rfl (run_loadN ty85 rfl (by first | rfl | assumption | (simp; done)) hs.a0) ?_ | refine WL.val rfl (run_loadN ty85 rfl (by first | rfl | assumption | (simp; done)) hs.a1) ?_ | refine WL.val rfl (run_loadN ty85 rfl (by first | rfl | assumption | (simp; done)) hs.a2) ?_ | refine WL.val rfl (run_loadN ty85 rfl (by first | rfl | assumption | (simp; done)) hs.a3) ?_ | refine WL.val rfl (run_loadN ty85 rfl (by first | rfl | assumption | (simp; done)) hs.a4) ?_ | refine WL.val rfl (run_loadN ty85 rfl (by first | rfl | assumption | (simp; done)) hs.a5) ?_ | refine WL.val rfl (run_loadN ty85 rfl (by first | rfl | assumption | (simp; done)) hs.a0) ?_
        refine WL.mapPut Try.underlying81 rfl rfl rfl hK9 hpd (hs.front [_, _, _, _]) (fun w hs => ?_)
        refine WL.nil ?_
        have e1 : putM pd (.agg #[.slice a nn c, .int .i64 st]) done.length (twinM done 0) = twinM (done ++ [(pd, .agg #[.slice a nn c, .int .i64 st], pb)]) 0 := by
          rw [twinM_snoc, putM, findD_none hnd, Nat.zero_add]; rfl
        have e2 : putC pd done.length (twinM done 0) = (done ++ [((pd, Value.agg #[.slice a nn c, .int .i64 st], pb) : MEnt)]).length := by
          rw [putC, findD_none hnd, List.length_append]; rfl
        repeat (first | refine CW.seq ?_ | refine CW.block ?_ | refine CW.skip ?_ | refine CW.label ?_ | refine CW.exit ?_)
        refine (show _ ∧ _ from ⟨rfl, _, ?_, done ++ [(pd, .agg #[.slice a nn c, .int .i64 st], pb)], left', rfl, hperm, ?_, rfl, rfl, rfl, trivial⟩)
        · omega
        · have e3 : Step [] [(b9, mapObj (putM pd (.agg #[.slice a nn c, .int .i64 st]) done.length (twinM done 0)) (putC pd done.length (twinM done 0))), _, _, (b15, iterO m clock (done ++ [(pd, .agg #[.slice a nn c, .int .i64 st], pb)])), (b3, blk 83 (stC k cap used last b9 gets puts))] w0 w := hs
          rw [e1, e2] at e3
          exact Step.dropR (L1 := [_, _, _]) (Step.append_comm (L1 := [_, _, _]) (L2 := [_, _]) e3)
      · cases h
end Go.Gx
/-! Less -/
namespace Go.Gx
open Go.Proofs
set_option linter.unusedVariables false
set_option linter.unusedSimpArgs false
set_option maxRecDepth 100000
def ltD : List UInt8 → List UInt8 → Bool
  | a :: x, b :: y => if a < b then true else if b < a then false else ltD x y
  | [], _ :: _ => true
  | _, [] => false
theorem u8_tri {a b : UInt8} (h1 : ¬ a < b) (h2 : ¬ b < a) : a = b := by
  apply UInt8.toNat_inj.1
  rw [UInt8.lt_iff_toNat_lt] at h1 h2
  omega
theorem ltD_irrefl : ∀ x, ltD x x = false
  | [] => rfl
  | a :: x => by simp [ltD, ltD_irrefl x]
theorem ltD_trans : ∀ x y z, ltD x y = true → ltD y z = true → ltD x z = true
  | [], [], z, h, _ => by simp [ltD] at h
  | [], _ :: _, [], _, h => by simp [ltD] at h
  | [], _ :: _, _ :: _, _, _ => rfl
  | _ :: _, [], _, h, _ => by simp [ltD] at h
  | _ :: _, _ :: _, [], _, h => by simp [ltD] at h
  | a :: x, b :: y, c :: z, h1, h2 => by
    simp only [ltD] at *
    by_cases hab : a < b
    · by_cases hbc : b < c
      · rw [if_pos (by rw [UInt8.lt_iff_toNat_lt] at *; omega)]
      · rw [if_neg hbc] at h2
        by_cases hcb : c < b
        · rw [if_pos hcb] at h2; cases h2
        · rw [← u8_tri hbc hcb, if_pos hab]
    · rw [if_neg hab] at h1
      by_cases hba : b < a
      · rw [if_pos hba] at h1; cases h1
      · obtain rfl := u8_tri hab hba
        rw [if_neg hba] at h1
        by_cases hbc : a < c
        · rw [if_pos hbc]
        · rw [if_neg hbc] at h2 ⊢
          by_cases hcb : c < a
          · rw [if_pos hcb] at h2; cases h2
          · rw [if_neg hcb] at h2 ⊢
            exact ltD_trans x y z h1 h2
theorem ltD_tri : ∀ x y, ltD x y = false → ltD y x = false → x = y
  | [], [], _, _ => rfl
  | [], _ :: _, h, _ => by simp [ltD] at h
  | _ :: _, [], _, h => by simp [ltD] at h
  | a :: x, b :: y, h1, h2 => by
    simp only [ltD] at h1 h2
    by_cases hab : a < b
    · rw [if_pos hab] at h1; cases h1
    · by_cases hba : b < a
      · rw [if_pos hba] at h2; cases h2
      · rw [if_neg hab, if_neg hba] at h1
        rw [if_neg hba, if_neg hab] at h2
        rw [u8_tri hab hba, ltD_tri x y h1 h2]
theorem compareBytes_lt : ∀ x y, decide (Lib.compareBytes x y < 0) = ltD x y
  | [], [] => rfl
  | [], _ :: _ => rfl
  | _ :: _, [] => rfl
  | a :: x, b :: y => by
    simp only [Lib.compareBytes, ltD]
    by_cases h1 : a < b
    · simp [h1]
    · by_cases h2 : b < a
      · simp [h1, h2]
      · simp [h1, h2, compareBytes_lt x y]
theorem run_bytesOf {P : Program} {w : World} {v : Value} {k : Nat} {x : List UInt8} (hv : Sl w 1 v k (u8s x)) : (Extern.Bytes.bytesOf v).run P w = .ok ⟨⟨x⟩⟩ w := by
  obtain ⟨hl, ⟨a, c, rfl, rfl⟩ | ⟨b, off, c, rfl, hat⟩⟩ := hv
  · have : x = [] := by simpa [u8s] using hl
    subst this
    cases a <;> rfl
  · have hlen : x.length = k := by simpa [u8s] using hl
    subst hlen
    have h := Lib.run_loadBytesX (P := P) w (x.map fun z => (z.toNat : Int)) ⟨b, off, none⟩ .empty (fun j z hj => by
      rw [List.getElem?_map] at hj
      cases hx : x[j]? with
      | none => rw [hx] at hj; cases hj
      | some y =>
        rw [hx] at hj
        obtain rfl : (y.toNat : Int) = z := by simpa using hj
        have h1 := hat j (.int .u8 y.toNat) (by simp [u8s, hx])
        rw [Addr.add_lit]; exact h1)
    rw [List.length_map] at h
    simp only [Extern.Bytes.bytesOf]
    rw [h]
    have e : Lib.bytesOf (x.map fun z => (z.toNat : Int)) = x := by
      simp [Lib.bytesOf, Function.comp_def]
    rw [e]
    simp
theorem compare_spec {u v : Value} {x y : List UInt8} (w0 : World) (hu : Sl w0 1 u x.length (u8s x)) (hv : Sl w0 1 v y.length (u8s y)) : Calls Try.prog 75 #[u, v] w0 (Ret0 (.int .i64 (Lib.compareBytes x y)) w0) := by
  have hs : Step [] [] w0 w0 := Step.refl w0
  have hr : ∀ w, Step [] [] w0 w → (Extern.BytealgCompare.compare #[u, v]).run Try.prog w = .ok (.int .i64 (Lib.compareBytes x y)) w := fun w hw => by
    change Sem.run Try.prog (do pure (goInt (Extern.BytealgCompare.cmp (← Extern.Bytes.bytesOf u) (← Extern.Bytes.bytesOf v)))) w = _
    simp only [Sem.run_bind, run_bytesOf (hu.step0 hw), run_bytesOf (hv.step0 hw), Result.andThen_ok, Sem.run_pure]
    rw [Lib.cmp_eq]
    rfl
  refine calls (n := 8) Try.func75 rfl rfl rfl ?_
  repeat (first | refine CW.seq ?_ | refine CW.block ?_ | refine CW.skip ?_ | refine CW.label ?_ | refine CW.exit ?_ | refine CW.condT rfl ?_ | refine CW.condF rfl ?_)
  refine CW.reg ?_
  refine WL.val rfl (run_assign) ?_
  refine WL.nil ?_
  repeat (first | refine CW.seq ?_ | refine CW.block ?_ | refine CW.skip ?_ | refine CW.label ?_ | refine CW.exit ?_ | refine CW.condT rfl ?_ | refine CW.condF rfl ?_)
  refine CW.reg ?_
  refine WL.val rfl (run_move) ?_
  refine WL.val rfl (run_move) ?_
  refine WL.val rfl (run_callExt Try.func95 (by kernel_rfl) (by kernel_rfl) (by kernel_rfl) (e := Extern.BytealgCompare.compare) (by kernel_rfl) rfl rfl (hr _ hs)) ?_
  refine WL.val rfl (run_assign) ?_
  refine WL.nil ?_
  repeat (first | refine CW.seq ?_ | refine CW.block ?_ | refine CW.skip ?_ | refine CW.label ?_ | refine CW.exit ?_ | refine CW.condT rfl ?_ | refine CW.condF rfl ?_)
  refine CW.ret ?_
  refine fin_ret1 rfl ?_
  exact ⟨rfl, hs⟩
theorem less_spec {x y : List UInt8} (hx : x.length = 32) (hy : y.length = 32) (w0 : World) : Calls Try.prog 56 #[.agg (u8s x).toArray, .agg (u8s y).toArray] w0 (Ret0 (.bool (ltD x y)) w0) := by
  have hs : Step [] [] w0 w0 := Step.refl w0
  have hxl : (u8s x).length = 32 := by rw [u8s, List.length_map, hx]
  have hyl : (u8s y).length = 32 := by rw [u8s, List.length_map, hy]
  refine calls (n := 9) Try.func56 rfl rfl rfl ?_
  repeat (first | refine CW.seq ?_ | refine CW.block ?_ | refine CW.skip ?_ | refine CW.label ?_ | refine CW.exit ?_ | refine CW.condT rfl ?_ | refine CW.condF rfl ?_)
  refine CW.reg ?_
  refine WL.box (cs := u8s x) rfl rfl rfl hs (fun b2 w hs => ?_)
  refine WL.box (cs := u8s y) rfl rfl rfl hs (fun b3 w hs => ?_)
  refine WL.val rfl (run_assign) ?_
  refine WL.nil ?_
  rw [← compareBytes_lt]
  repeat (first | refine CW.seq ?_ | refine CW.block ?_ | refine CW.skip ?_ | refine CW.label ?_ | refine CW.exit ?_ | refine CW.condT rfl ?_ | refine CW.condF rfl ?_)
  refine CW.quiet mixedP (by kernel_rfl) hs ?_
  refine QL.val rfl (fun w hs => run_sliceArr  Try.underlying27 ty5 rfl rfl rfl (by omega) (by omega)) ?_
  refine QL.val rfl (fun w hs => run_sliceArr  Try.underlying27 ty5 rfl rfl rfl (by omega) (by omega)) ?_
  refine QL.enter rfl (fun w => run_call en75 rfl rfl) (fun w hs => compare_spec _ (x := x) (y := y) (by rw [hx]; exact .mk hxl hs.a1) (by rw [hy]; exact .mk hyl hs.a0)) ?_
  refine QL.val rfl (fun w hs => run_lss rfl rfl) ?_
  refine QL.val rfl (fun w hs => run_assign) ?_
  refine QL.nil (fun w hs => ?_)
  repeat (first | refine CW.seq ?_ | refine CW.block ?_ | refine CW.skip ?_ | refine CW.label ?_ | refine CW.exit ?_ | refine CW.condT rfl ?_ | refine CW.condF rfl ?_)
  refine CW.ret ?_
  refine fin_ret1 rfl ?_
  exact ⟨rfl, hs.clear⟩
end Go.Gx
