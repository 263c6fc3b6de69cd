/- PathWalks: Names left early, ranged over anew, within itself. -/
import Derived.Test.YtnoamfcnamlbhaaDoorPPlain
namespace Go.Gx
open Go.Proofs Go.RowKit
set_option linter.unusedVariables false
set_option linter.unusedSimpArgs false
set_option maxRecDepth 100000

theorem ty38 : Ty Tryd.prog 38 false 1 8 [.nilFunc] := ty_of (z := .nilFunc) Tryd.underlying38 rfl (by kernel_rfl) rfl rfl

set_option maxHeartbeats 8000000 in
theorem pathWalks_spec {s : List UInt8} {st : Int} (w0 : World) (hk : Knows) (hg : Gl w0) (hs1 : s.length ≤ 9223372036854775807) : Calls Tryd.prog 6 #[str s, .int .i64 st] w0 (Ret0 (.bool true) w0) := by
  have hs : Step [] [] w0 w0 := Step.refl w0
  refine callsM (n := 93) Tryd.func6 rfl rfl rfl ?_
  repeat (first | refine CW.seq ?_ | refine CW.block ?_ | refine CW.skip ?_ | refine CW.label ?_ | refine CW.exit ?_ | refine CW.condT rfl ?_ | refine CW.condF rfl ?_)
  refine CW.reg ?_
  refine WL.box rfl (rfl) rfl hs (fun b3 w hs => ?_)
  refine WL.alloc ty4 rfl hs (fun b4 w hs => ?_)
  refine WL.nil ?_
  repeat (first | refine CW.seq ?_ | refine CW.block ?_ | refine CW.skip ?_ | refine CW.label ?_ | refine CW.exit ?_ | refine CW.condT rfl ?_ | refine CW.condF rfl ?_)
  refine CW.reg ?_
  refine WL.enter rfl (run_call en11 rfl rfl) (hk _ (hg.step hs)) ?_
  rintro e w ⟨rfl, hq⟩
  refine ⟨_, rfl, ?_⟩
  replace hs := hs.callE hq
  first | refine WL.val rfl (run_notB rfl) ?_ | refine WL.val rfl (run_not rfl) ?_
  refine WL.nil ?_
  by_cases hbig : 16777216 < s.length
  · repeat (first | refine CW.seq ?_ | refine CW.block ?_ | refine CW.skip ?_ | refine CW.label ?_ | refine CW.exit ?_ | refine CW.condT rfl ?_ | refine CW.condF rfl ?_)
    refine CW.reg ?_
    refine WL.val rfl (run_move) ?_
    refine WL.val rfl (run_lenStr Tryd.underlying9 rfl) ?_
    refine WL.val rfl (run_bT (run_gtr rfl rfl) (by omega)) ?_
    refine WL.nil ?_
    repeat (first | refine CW.seq ?_ | refine CW.block ?_ | refine CW.skip ?_ | refine CW.label ?_ | refine CW.exit ?_ | refine CW.condT rfl ?_ | refine CW.condF rfl ?_)
    refine CW.reg ?_
    first | refine WL.store1 ty4 rfl rfl (rfl) hs (by first | (simp; done) | omega | (simp only [List.length_append, List.length_replicate, List.length_cons, List.length_nil, List.length_set]; omega) | (simp [Ent.cells, u8s]; done) | exact Nat.le_of_ble_eq_true rfl) (fun w hs => ?_) | refine WL.store1_1 ty4 rfl rfl (rfl) hs (by first | (simp; done) | omega | (simp only [List.length_append, List.length_replicate, List.length_cons, List.length_nil, List.length_set]; omega) | (simp [Ent.cells, u8s]; done) | exact Nat.le_of_ble_eq_true rfl) (fun w hs => ?_) | refine WL.store1_2 ty4 rfl rfl (rfl) hs (by first | (simp; done) | omega | (simp only [List.length_append, List.length_replicate, List.length_cons, List.length_nil, List.length_set]; omega) | (simp [Ent.cells, u8s]; done) | exact Nat.le_of_ble_eq_true rfl) (fun w hs => ?_) | refine WL.store1_3 ty4 rfl rfl (rfl) hs (by first | (simp; done) | omega | (simp only [List.length_append, List.length_replicate, List.length_cons, List.length_nil, List.length_set]; omega) | (simp [Ent.cells, u8s]; done) | exact Nat.le_of_ble_eq_true rfl) (fun w hs => ?_) | refine WL.store1_4 ty4 rfl rfl (rfl) hs (by first | (simp; done) | omega | (simp only [List.length_append, List.length_replicate, List.length_cons, List.length_nil, List.length_set]; omega) | (simp [Ent.cells, u8s]; done) | exact Nat.le_of_ble_eq_true rfl) (fun w hs => ?_) | refine WL.store1 ty4 rfl rfl (rfl) hs (by first | (simp; done) | omega | (simp only [List.length_append, List.length_replicate, List.length_cons, List.length_nil, List.length_set]; omega) | (simp [Ent.cells, u8s]; done) | exact Nat.le_of_ble_eq_true rfl) (fun w hs => ?_)
    refine WL.nil ?_
    repeat (first | refine CW.seq ?_ | refine CW.block ?_ | refine CW.skip ?_ | refine CW.label ?_ | refine CW.exit ?_ | refine CW.condT rfl ?_ | refine CW.condF rfl ?_)
    refine CW.ret ?_
    exact finM_ret (bs := []) (.inl rfl) hs fun a ha w' hs' => ⟨_, res_cell1 ha rfl rfl (run_loadVar1 ty4 (hs'.c0 rfl)), rfl, hs'.clear⟩
  · have hpl := partsL_len s
    have cN := fun w hg => names_spec (s := s) w hg (by omega)
    have cD := fun w hg => depth_spec (s := s) w hg (by omega)
    have hobt : ∃ x, partsL s = x := ⟨_, rfl⟩
    obtain ⟨x, hx⟩ := hobt
    have hit := fun {b l} W0 hc hg => @names1_iter s b l W0 hc hg (by omega)
    simp only [hx] at cN cD hpl hit
    repeat (first | refine CW.seq ?_ | refine CW.block ?_ | refine CW.skip ?_ | refine CW.label ?_ | refine CW.exit ?_ | refine CW.condT rfl ?_ | refine CW.condF rfl ?_)
    refine CW.reg ?_
    refine WL.val rfl (run_move) ?_
    refine WL.val rfl (run_lenStr Tryd.underlying9 rfl) ?_
    refine WL.val rfl (run_bF (run_gtr rfl rfl) (by omega)) ?_
    refine WL.nil ?_
    repeat (first | refine CW.seq ?_ | refine CW.block ?_ | refine CW.skip ?_ | refine CW.label ?_ | refine CW.exit ?_ | refine CW.condT rfl ?_ | refine CW.condF rfl ?_)
    refine CW.reg ?_
    refine WL.val rfl (run_move) ?_
    refine WL.enter rfl (run_call en20 rfl rfl) (cN _ (hg.step hs)) ?_
    rintro e w ⟨u, Lu, rfl, hu, hq⟩
    refine ⟨_, rfl, ?_⟩
    replace hs := (hs.call0 hq).append_comm
    have hform := hu.form
    obtain ⟨a, c, hq2⟩ := hform
    subst hq2
    refine WL.val rfl (run_move) ?_
    refine WL.val rfl (run_extract rfl rfl) ?_
    refine WL.val rfl (run_extract rfl rfl) ?_
    refine WL.alloc ty34 rfl hs (fun b5 w hs => ?_)
    first | refine WL.store1 ty34 rfl rfl (rfl) hs (by first | (simp; done) | omega | (simp only [List.length_append, List.length_replicate, List.length_cons, List.length_nil, List.length_set]; omega) | (simp [Ent.cells, u8s]; done) | exact Nat.le_of_ble_eq_true rfl) (fun w hs => ?_) | refine WL.store1_1 ty34 rfl rfl (rfl) hs (by first | (simp; done) | omega | (simp only [List.length_append, List.length_replicate, List.length_cons, List.length_nil, List.length_set]; omega) | (simp [Ent.cells, u8s]; done) | exact Nat.le_of_ble_eq_true rfl) (fun w hs => ?_) | refine WL.store1_2 ty34 rfl rfl (rfl) hs (by first | (simp; done) | omega | (simp only [List.length_append, List.length_replicate, List.length_cons, List.length_nil, List.length_set]; omega) | (simp [Ent.cells, u8s]; done) | exact Nat.le_of_ble_eq_true rfl) (fun w hs => ?_) | refine WL.store1_3 ty34 rfl rfl (rfl) hs (by first | (simp; done) | omega | (simp only [List.length_append, List.length_replicate, List.length_cons, List.length_nil, List.length_set]; omega) | (simp [Ent.cells, u8s]; done) | exact Nat.le_of_ble_eq_true rfl) (fun w hs => ?_) | refine WL.store1_4 ty34 rfl rfl (rfl) hs (by first | (simp; done) | omega | (simp only [List.length_append, List.length_replicate, List.length_cons, List.length_nil, List.length_set]; omega) | (simp [Ent.cells, u8s]; done) | exact Nat.le_of_ble_eq_true rfl) (fun w hs => ?_) | refine WL.store1 ty34 rfl rfl (rfl) hs (by first | (simp; done) | omega | (simp only [List.length_append, List.length_replicate, List.length_cons, List.length_nil, List.length_set]; omega) | (simp [Ent.cells, u8s]; done) | exact Nat.le_of_ble_eq_true rfl) (fun w hs => ?_)
    refine WL.val rfl (run_assign) ?_
    refine WL.nil ?_
    repeat (first | refine CW.seq ?_ | refine CW.block ?_ | refine CW.skip ?_ | refine CW.label ?_ | refine CW.exit ?_ | refine CW.condT rfl ?_ | refine CW.condF rfl ?_)
    refine CW.reg ?_
    refine WL.val rfl (run_move) ?_
    refine WL.enter rfl (run_call en22 rfl rfl) (namesP_spec _) ?_
    rintro e w ⟨b, rfl, hq⟩
    refine ⟨_, rfl, ?_⟩
    replace hs := hs.call0 hq
    refine WL.alloc ty38 rfl hs (fun b7 w hs => ?_)
    first | refine WL.store1 ty38 rfl rfl (rfl) hs (by first | (simp; done) | omega | (simp only [List.length_append, List.length_replicate, List.length_cons, List.length_nil, List.length_set]; omega) | (simp [Ent.cells, u8s]; done) | exact Nat.le_of_ble_eq_true rfl) (fun w hs => ?_) | refine WL.store1_1 ty38 rfl rfl (rfl) hs (by first | (simp; done) | omega | (simp only [List.length_append, List.length_replicate, List.length_cons, List.length_nil, List.length_set]; omega) | (simp [Ent.cells, u8s]; done) | exact Nat.le_of_ble_eq_true rfl) (fun w hs => ?_) | refine WL.store1_2 ty38 rfl rfl (rfl) hs (by first | (simp; done) | omega | (simp only [List.length_append, List.length_replicate, List.length_cons, List.length_nil, List.length_set]; omega) | (simp [Ent.cells, u8s]; done) | exact Nat.le_of_ble_eq_true rfl) (fun w hs => ?_) | refine WL.store1_3 ty38 rfl rfl (rfl) hs (by first | (simp; done) | omega | (simp only [List.length_append, List.length_replicate, List.length_cons, List.length_nil, List.length_set]; omega) | (simp [Ent.cells, u8s]; done) | exact Nat.le_of_ble_eq_true rfl) (fun w hs => ?_) | refine WL.store1_4 ty38 rfl rfl (rfl) hs (by first | (simp; done) | omega | (simp only [List.length_append, List.length_replicate, List.length_cons, List.length_nil, List.length_set]; omega) | (simp [Ent.cells, u8s]; done) | exact Nat.le_of_ble_eq_true rfl) (fun w hs => ?_) | refine WL.store1 ty38 rfl rfl (rfl) hs (by first | (simp; done) | omega | (simp only [List.length_append, List.length_replicate, List.length_cons, List.length_nil, List.length_set]; omega) | (simp [Ent.cells, u8s]; done) | exact Nat.le_of_ble_eq_true rfl) (fun w hs => ?_)
    refine WL.nil ?_
    replace hs : Step [] ((b7, blk 38 [.func (.func 44) #[] #[.pointer (some ⟨b, 0, none⟩)]]) :: (b, blk 9 [str s]) :: (b5, blk 34 [.slice a x.length c]) :: (b4, blk 4 [.bool false]) :: (b3, blk 3 [.int .i64 st]) :: Lu) w0 w := hs
    repeat (first | refine CW.seq ?_ | refine CW.block ?_ | refine CW.skip ?_ | refine CW.label ?_ | refine CW.exit ?_ | refine CW.condT rfl ?_ | refine CW.condF rfl ?_)
    refine CW.quiet mixedP (by kernel_rfl) hs ?_
    refine QL.val rfl (fun w hs => run_move) ?_
    first | refine QL.val rfl (fun w hs => run_notB rfl) ?_ | refine QL.val rfl (fun w hs => run_not rfl) ?_
    refine QL.val rfl (fun w hs => run_move) ?_
    refine QL.yes rfl rfl rfl ?_
    refine QL.val rfl (fun w hs => run_load1 ty38 rfl ((hs.c0 rfl))) ?_
    refine QL.yes rfl rfl rfl ?_
    refine QL.val rfl (fun w hs => run_funcNil Tryd.underlying38 rfl rfl) ?_
    first | refine QL.val rfl (fun w hs => run_pickT rfl) ?_ | refine QL.val rfl (fun w hs => run_pickF rfl) ?_
    refine QL.val rfl (fun w hs => run_move) ?_
    refine QL.yes rfl rfl rfl ?_
    refine QL.val rfl (fun w hs => run_load1 ty34 rfl ((hs.c2 rfl))) ?_
    first | (refine QL.yes rfl rfl rfl ?_; refine QL.val rfl (fun w hs => run_lenSl Tryd.underlying34 rfl) ?_) | refine QL.no rfl rfl rfl (.inl rfl) ?_ | refine QL.no rfl rfl rfl (.inr rfl) ?_
    first | (refine QL.yes rfl rfl rfl ?_; refine QL.val rfl (fun w hs => run_move) ?_) | refine QL.no rfl rfl rfl (.inl rfl) ?_ | refine QL.no rfl rfl rfl (.inr rfl) ?_
    refine QL.yes rfl rfl rfl ?_
    refine QL.enter rfl (fun w => run_call en23 rfl rfl) (fun w hs => cD _ (hg.step hs.clear)) ?_
    refine QL.yes rfl rfl rfl ?_
    refine QL.val rfl (fun w hs => run_bF (run_neq rfl rfl) (by (exact fun h => h rfl))) ?_
    first | refine QL.val rfl (fun w hs => run_pickT rfl) ?_ | refine QL.val rfl (fun w hs => run_pickF rfl) ?_
    refine QL.nil (fun w hs => ?_)
    have hgs : ∀ {L w}, Step [] L w0 w → Gl w := fun h => hg.step h
    replace hs : Step [] ((b4, blk 4 [.bool false]) :: (b7, blk 38 [.func (.func 44) #[] #[.pointer (some ⟨b, 0, none⟩)]]) :: (b, blk 9 [str s]) :: (b5, blk 34 [.slice a x.length c]) :: (b3, blk 3 [.int .i64 st]) :: Lu) w0 w := hs.front [_, _, _]
    have hobt : ∃ Fx, (b7, blk 38 [.func (.func 44) #[] #[.pointer (some ⟨b, 0, none⟩)]]) :: (b, blk 9 [str s]) :: (b5, blk 34 [.slice a x.length c]) :: (b3, blk 3 [.int .i64 st]) :: Lu = Fx := ⟨_, rfl⟩
    obtain ⟨Fx, hFx⟩ := hobt
    have hm7 : (b7, blk 38 [.func (.func 44) #[] #[.pointer (some ⟨b, 0, none⟩)]]) ∈ Fx := by rw [← hFx]; simp
    have hmb : (b, blk 9 [str s]) ∈ Fx := by rw [← hFx]; simp
    have hm5 : (b5, blk 34 [.slice a x.length c]) ∈ Fx := by rw [← hFx]; simp
    have hm3 : (b3, blk 3 [.int .i64 st]) ∈ Fx := by rw [← hFx]; simp
    have hmu : ∀ p ∈ Lu, p ∈ Fx := fun p hp => by rw [← hFx]; simp [hp]
    rw [hFx] at hs
    clear hFx
    repeat (first | refine CW.seq ?_ | refine CW.block ?_ | refine CW.skip ?_ | refine CW.label ?_ | refine CW.exit ?_ | refine CW.condT rfl ?_ | refine CW.condF rfl ?_)
    refine CW.reg ?_
    refine WL.alloc ty3 rfl hs (fun b8 w hs => ?_)
    first | refine WL.store1 ty3 rfl rfl (rfl) hs (by first | (simp; done) | omega | (simp only [List.length_append, List.length_replicate, List.length_cons, List.length_nil, List.length_set]; omega) | (simp [Ent.cells, u8s]; done) | exact Nat.le_of_ble_eq_true rfl) (fun w hs => ?_) | refine WL.store1_1 ty3 rfl rfl (rfl) hs (by first | (simp; done) | omega | (simp only [List.length_append, List.length_replicate, List.length_cons, List.length_nil, List.length_set]; omega) | (simp [Ent.cells, u8s]; done) | exact Nat.le_of_ble_eq_true rfl) (fun w hs => ?_) | refine WL.store1_2 ty3 rfl rfl (rfl) hs (by first | (simp; done) | omega | (simp only [List.length_append, List.length_replicate, List.length_cons, List.length_nil, List.length_set]; omega) | (simp [Ent.cells, u8s]; done) | exact Nat.le_of_ble_eq_true rfl) (fun w hs => ?_) | refine WL.store1_3 ty3 rfl rfl (rfl) hs (by first | (simp; done) | omega | (simp only [List.length_append, List.length_replicate, List.length_cons, List.length_nil, List.length_set]; omega) | (simp [Ent.cells, u8s]; done) | exact Nat.le_of_ble_eq_true rfl) (fun w hs => ?_) | refine WL.store1_4 ty3 rfl rfl (rfl) hs (by first | (simp; done) | omega | (simp only [List.length_append, List.length_replicate, List.length_cons, List.length_nil, List.length_set]; omega) | (simp [Ent.cells, u8s]; done) | exact Nat.le_of_ble_eq_true rfl) (fun w hs => ?_) | refine WL.store1 ty3 rfl rfl (rfl) hs (by first | (simp; done) | omega | (simp only [List.length_append, List.length_replicate, List.length_cons, List.length_nil, List.length_set]; omega) | (simp [Ent.cells, u8s]; done) | exact Nat.le_of_ble_eq_true rfl) (fun w hs => ?_)
    refine WL.nil ?_
    repeat (first | refine CW.seq ?_ | refine CW.block ?_ | refine CW.skip ?_ | refine CW.label ?_ | refine CW.exit ?_ | refine CW.condT rfl ?_ | refine CW.condF rfl ?_)
    refine CW.loopD (fun m f ds w' => ∃ (T : Nat) (bs : List Nat) (b8 : Nat), T ≤ 2 ∧ m = 2 - T ∧ ds = bs.map markOf ∧ Step [] ((b8, blk 3 [.int .i64 T]) :: (b4, blk 4 [.bool false]) :: (marksO bs ++ Fx)) w0 w' ∧ Holds f [(3, .pointer (some ⟨b3, 0, none⟩)), (4, .pointer (some ⟨b4, 0, none⟩)), (5, .pointer (some ⟨b5, 0, none⟩)), (7, .pointer (some ⟨b7, 0, none⟩)), (8, .pointer (some ⟨b8, 0, none⟩))]) (m := 2) ?_ ?_
    · exact ⟨0, [], b8, by omega, rfl, rfl, hs, rfl, rfl, rfl, rfl, rfl, trivial⟩
    clear hs
    rintro m f ds w ⟨T, bs, b8, hT, rfl, rfl, hs, hf⟩
    have hobt := hf.chain
    obtain ⟨g, rfl⟩ := hobt
    by_cases hT2 : T < 2
    · repeat (first | refine CW.seq ?_ | refine CW.block ?_ | refine CW.skip ?_ | refine CW.label ?_ | refine CW.exit ?_ | refine CW.condT rfl ?_ | refine CW.condF rfl ?_)
      refine CW.reg ?_
      refine WL.val rfl (run_load1 ty3 rfl ((hs.c0 rfl))) ?_
      refine WL.val rfl (run_bT (run_lss rfl rfl) (by omega)) ?_
      refine WL.nil ?_
      repeat (first | refine CW.seq ?_ | refine CW.block ?_ | refine CW.skip ?_ | refine CW.label ?_ | refine CW.exit ?_ | refine CW.condT rfl ?_ | refine CW.condF rfl ?_)
      refine CW.reg ?_
      refine WL.alloc ty3 rfl hs (fun b9 w hs => ?_)
      first | refine WL.store1 ty3 rfl rfl (rfl) hs (by first | (simp; done) | omega | (simp only [List.length_append, List.length_replicate, List.length_cons, List.length_nil, List.length_set]; omega) | (simp [Ent.cells, u8s]; done) | exact Nat.le_of_ble_eq_true rfl) (fun w hs => ?_) | refine WL.store1_1 ty3 rfl rfl (rfl) hs (by first | (simp; done) | omega | (simp only [List.length_append, List.length_replicate, List.length_cons, List.length_nil, List.length_set]; omega) | (simp [Ent.cells, u8s]; done) | exact Nat.le_of_ble_eq_true rfl) (fun w hs => ?_) | refine WL.store1_2 ty3 rfl rfl (rfl) hs (by first | (simp; done) | omega | (simp only [List.length_append, List.length_replicate, List.length_cons, List.length_nil, List.length_set]; omega) | (simp [Ent.cells, u8s]; done) | exact Nat.le_of_ble_eq_true rfl) (fun w hs => ?_) | refine WL.store1_3 ty3 rfl rfl (rfl) hs (by first | (simp; done) | omega | (simp only [List.length_append, List.length_replicate, List.length_cons, List.length_nil, List.length_set]; omega) | (simp [Ent.cells, u8s]; done) | exact Nat.le_of_ble_eq_true rfl) (fun w hs => ?_) | refine WL.store1_4 ty3 rfl rfl (rfl) hs (by first | (simp; done) | omega | (simp only [List.length_append, List.length_replicate, List.length_cons, List.length_nil, List.length_set]; omega) | (simp [Ent.cells, u8s]; done) | exact Nat.le_of_ble_eq_true rfl) (fun w hs => ?_) | refine WL.store1 ty3 rfl rfl (rfl) hs (by first | (simp; done) | omega | (simp only [List.length_append, List.length_replicate, List.length_cons, List.length_nil, List.length_set]; omega) | (simp [Ent.cells, u8s]; done) | exact Nat.le_of_ble_eq_true rfl) (fun w hs => ?_)
      refine WL.nil ?_
      repeat (first | refine CW.seq ?_ | refine CW.block ?_ | refine CW.skip ?_ | refine CW.label ?_ | refine CW.exit ?_ | refine CW.condT rfl ?_ | refine CW.condF rfl ?_)
      refine CW.reg ?_
      refine WL.val rfl (run_load1 ty38 rfl ((hs.inCell (List.mem_cons_of_mem _ (List.mem_cons_of_mem _ (List.mem_cons_of_mem _ (List.mem_append_right _ hm7)))) rfl))) ?_
      refine WL.nil ?_
      repeat (first | refine CW.seq ?_ | refine CW.block ?_ | refine CW.skip ?_ | refine CW.label ?_ | refine CW.exit ?_ | refine CW.condT rfl ?_ | refine CW.condF rfl ?_)
      refine CW.rangeFunc (cap := [.pointer (some ⟨b, 0, none⟩)]) en44 rfl hs ?_
      intro l1 b0 r1 W1 hrec1 hrs1 hrp1 hs2
      have hobt : ∃ R, (b0, .deferred (some [])) :: (b8, blk 3 [.int .i64 T]) :: (b4, blk 4 [.bool false]) :: (marksO bs ++ Fx) = R := ⟨_, rfl⟩
      obtain ⟨R, hR⟩ := hobt
      have hRm : ∀ {p}, p ∈ Fx → p ∈ R := fun h => by rw [← hR]; simp [h]
      have hR8 : (b8, blk 3 [.int .i64 T]) ∈ R := by rw [← hR]; simp
      replace hs2 : Step [] ((l1, .loop r1) :: (b9, blk 3 [.int .i64 0]) :: R) w0 W1 := by rw [← hR]; exact hs2.perm ((List.Perm.swap _ _ _).cons _)
      clear hs
      have hu1 : ∀ {k p}, x[k]? = some p → ∃ bl, a = some ⟨bl, 0, none⟩ ∧ ∀ {S L w w'}, Step S L w w' → (∀ q ∈ R, q ∈ L) → ∀ {j q}, x[j]? = some q → w'.cell? ⟨bl, 0 + j * 1, none⟩ = some (str q) := fun {k p} hp => by
        have hpos : 0 < x.length := Nat.lt_of_le_of_lt (Nat.zero_le _) (List.getElem?_eq_some_iff.1 hp).1
        have hobt := hu.some1 hpos
        obtain ⟨bl, cap, more, hq2, hqL, hcp⟩ := hobt
        cases hq2
        refine ⟨bl, rfl, fun {S L w w'} h hin {j q} hj => ?_⟩
        have hm := hin _ (hRm (hmu (bl, blk 9 (strs x ++ more)) (by rw [hqL]; simp)))
        have hjl := (List.getElem?_eq_some_iff.1 hj).1
        rw [cell_blk (h.has _ hm), Nat.zero_add, Nat.mul_one, List.getElem?_append_left (by rw [strs_len]; exact hjl)]
        simp [strs, hj]
      refine (hit W1 (hs2.inCell (List.mem_cons_of_mem _ (List.mem_cons_of_mem _ (hRm hmb))) rfl) (hg.step hs2)
        (J := fun k L W => k ≤ x.length ∧ L = (l1, .loop r1) :: (b9, blk 3 [.int .i64 k]) :: R ∧ Step [] L w0 W)
        (Jx := fun W => ∃ k, k < x.length ∧ T = 0 ∧ Step [] ((l1, .loop (Loop.at r1 .done (some (.exit 2)))) :: (b9, blk 3 [.int .i64 (k + 1 : Nat)]) :: R) w0 W) (L0 := (l1, .loop r1) :: (b9, blk 3 [.int .i64 0]) :: R) ?_ ?_ ?_ ?_).mono ?_
      · rintro k L W W' ⟨hk, rfl, hs⟩ h'
        exact ⟨hk, rfl, hs.callE h'⟩
      · intro p hp
        exact lt_of_get (hs2.has p hp)
      · exact ⟨Nat.zero_le _, rfl, hs2⟩
      · rintro k p L W hp ⟨hk, rfl, hs00⟩
        have hlt := (List.getElem?_eq_some_iff.1 hp).1
        have hobt := hu1 hp
        obtain ⟨bl, rfl, hcell⟩ := hobt
        have hsW := hs00.own0
        refine yields_of (n := 93) hrec1 hrs1 rfl hsW ?_
        have hs := hsW
        repeat (first | refine CWI.seq ?_ | refine CWI.block ?_ | refine CWI.skip ?_ | refine CWI.label ?_ | refine CWI.exit ?_ | refine CWI.condT rfl ?_ | refine CWI.condF rfl ?_)
        refine CWI.reg rfl (fun _ _ _ h => h) ?_
        refine WL.val rfl (run_assign) ?_
        refine WL.nil ?_
        refine ⟨_, _, _, _, hs, hrs1, fun w3 hs => ?_⟩
        clear hsW
        repeat (first | refine CWI.seq ?_ | refine CWI.block ?_ | refine CWI.skip ?_ | refine CWI.label ?_ | refine CWI.exit ?_ | refine CWI.condT rfl ?_ | refine CWI.condF rfl ?_)
        refine CWI.reg rfl (fun _ _ _ h => h) ?_
        refine WL.val rfl (run_load1 ty3 rfl ((hs.c1 rfl))) ?_
        refine WL.val rfl (run_load1 ty34 rfl ((hs.inCell (List.mem_cons_of_mem _ (List.mem_cons_of_mem _ (hRm hm5))) rfl))) ?_
        refine WL.val rfl (run_lenSl Tryd.underlying34 rfl) ?_
        refine WL.val rfl (run_bF (run_geq rfl rfl) (by omega)) ?_
        refine WL.val rfl (run_move) ?_
        first | (refine WL.yes rfl rfl rfl ?_; refine WL.val rfl (run_move) ?_) | refine WL.no rfl rfl rfl (.inl rfl) ?_ | refine WL.no rfl rfl rfl (.inr rfl) ?_
        refine WL.yes rfl rfl rfl ?_
        refine WL.val rfl (run_load1 ty34 rfl ((hs.inCell (List.mem_cons_of_mem _ (List.mem_cons_of_mem _ (hRm hm5))) rfl))) ?_
        refine WL.yes rfl rfl rfl ?_
        refine WL.val rfl (run_load1 ty3 rfl ((hs.c1 rfl))) ?_
        first | (refine WL.yes rfl rfl rfl ?_; (first | refine WL.val rfl (run_ixSlN Tryd.underlying34 ty9 rfl rfl (by omega)) ?_ | refine WL.val rfl (run_ixSl Tryd.underlying34 ty9 rfl rfl (by omega)) ?_)) | refine WL.no rfl rfl rfl (.inl rfl) ?_ | refine WL.no rfl rfl rfl (.inr rfl) ?_
        refine WL.yes rfl rfl rfl ?_
        refine WL.val rfl (run_load1 ty9 rfl ((hcell hs (fun q h => List.mem_cons_of_mem _ (List.mem_cons_of_mem _ h)) hp))) ?_
        refine WL.yes rfl rfl rfl ?_
        refine WL.val rfl (run_bF (run_strNe rfl rfl) (by (exact fun h => h rfl))) ?_
        first | refine WL.val rfl (run_pickT rfl) ?_ | refine WL.val rfl (run_pickF rfl) ?_
        refine WL.nil ?_
        repeat (first | refine CWI.seq ?_ | refine CWI.block ?_ | refine CWI.skip ?_ | refine CWI.label ?_ | refine CWI.exit ?_ | refine CWI.condT rfl ?_ | refine CWI.condF rfl ?_)
        refine CWI.reg rfl (fun _ _ _ h => h) ?_
        refine WL.val rfl (run_load1 ty3 rfl ((hs.c1 rfl))) ?_
        refine WL.val rfl (run_add (c := ((k + 1 : Nat) : Int)) rfl rfl (by omega) (by omega)) ?_
        first | refine WL.store1 ty3 rfl rfl (rfl) hs (by first | (simp; done) | omega | (simp only [List.length_append, List.length_replicate, List.length_cons, List.length_nil, List.length_set]; omega) | (simp [Ent.cells, u8s]; done) | exact Nat.le_of_ble_eq_true rfl) (fun w hs => ?_) | refine WL.store1_1 ty3 rfl rfl (rfl) hs (by first | (simp; done) | omega | (simp only [List.length_append, List.length_replicate, List.length_cons, List.length_nil, List.length_set]; omega) | (simp [Ent.cells, u8s]; done) | exact Nat.le_of_ble_eq_true rfl) (fun w hs => ?_) | refine WL.store1_2 ty3 rfl rfl (rfl) hs (by first | (simp; done) | omega | (simp only [List.length_append, List.length_replicate, List.length_cons, List.length_nil, List.length_set]; omega) | (simp [Ent.cells, u8s]; done) | exact Nat.le_of_ble_eq_true rfl) (fun w hs => ?_) | refine WL.store1_3 ty3 rfl rfl (rfl) hs (by first | (simp; done) | omega | (simp only [List.length_append, List.length_replicate, List.length_cons, List.length_nil, List.length_set]; omega) | (simp [Ent.cells, u8s]; done) | exact Nat.le_of_ble_eq_true rfl) (fun w hs => ?_) | refine WL.store1_4 ty3 rfl rfl (rfl) hs (by first | (simp; done) | omega | (simp only [List.length_append, List.length_replicate, List.length_cons, List.length_nil, List.length_set]; omega) | (simp [Ent.cells, u8s]; done) | exact Nat.le_of_ble_eq_true rfl) (fun w hs => ?_) | refine WL.store1 ty3 rfl rfl (rfl) hs (by first | (simp; done) | omega | (simp only [List.length_append, List.length_replicate, List.length_cons, List.length_nil, List.length_set]; omega) | (simp [Ent.cells, u8s]; done) | exact Nat.le_of_ble_eq_true rfl) (fun w hs => ?_)
        refine WL.nil ?_
        repeat (first | refine CWI.seq ?_ | refine CWI.block ?_ | refine CWI.skip ?_ | refine CWI.label ?_ | refine CWI.exit ?_ | refine CWI.condT rfl ?_ | refine CWI.condF rfl ?_)
        refine CWI.reg rfl (fun _ _ _ h => h) ?_
        refine WL.alloc ty3 rfl hs (fun b11 w hs => ?_)
        first | refine WL.store1 ty3 rfl rfl (rfl) hs (by first | (simp; done) | omega | (simp only [List.length_append, List.length_replicate, List.length_cons, List.length_nil, List.length_set]; omega) | (simp [Ent.cells, u8s]; done) | exact Nat.le_of_ble_eq_true rfl) (fun w hs => ?_) | refine WL.store1_1 ty3 rfl rfl (rfl) hs (by first | (simp; done) | omega | (simp only [List.length_append, List.length_replicate, List.length_cons, List.length_nil, List.length_set]; omega) | (simp [Ent.cells, u8s]; done) | exact Nat.le_of_ble_eq_true rfl) (fun w hs => ?_) | refine WL.store1_2 ty3 rfl rfl (rfl) hs (by first | (simp; done) | omega | (simp only [List.length_append, List.length_replicate, List.length_cons, List.length_nil, List.length_set]; omega) | (simp [Ent.cells, u8s]; done) | exact Nat.le_of_ble_eq_true rfl) (fun w hs => ?_) | refine WL.store1_3 ty3 rfl rfl (rfl) hs (by first | (simp; done) | omega | (simp only [List.length_append, List.length_replicate, List.length_cons, List.length_nil, List.length_set]; omega) | (simp [Ent.cells, u8s]; done) | exact Nat.le_of_ble_eq_true rfl) (fun w hs => ?_) | refine WL.store1_4 ty3 rfl rfl (rfl) hs (by first | (simp; done) | omega | (simp only [List.length_append, List.length_replicate, List.length_cons, List.length_nil, List.length_set]; omega) | (simp [Ent.cells, u8s]; done) | exact Nat.le_of_ble_eq_true rfl) (fun w hs => ?_) | refine WL.store1 ty3 rfl rfl (rfl) hs (by first | (simp; done) | omega | (simp only [List.length_append, List.length_replicate, List.length_cons, List.length_nil, List.length_set]; omega) | (simp [Ent.cells, u8s]; done) | exact Nat.le_of_ble_eq_true rfl) (fun w hs => ?_)
        refine WL.nil ?_
        repeat (first | refine CWI.seq ?_ | refine CWI.block ?_ | refine CWI.skip ?_ | refine CWI.label ?_ | refine CWI.exit ?_ | refine CWI.condT rfl ?_ | refine CWI.condF rfl ?_)
        refine CWI.reg rfl (fun _ _ _ h => h) ?_
        refine WL.val rfl (run_load1 ty38 rfl ((hs.inCell (List.mem_cons_of_mem _ (List.mem_cons_of_mem _ (List.mem_cons_of_mem _ (hRm hm7)))) rfl))) ?_
        refine WL.nil ?_
        replace hs : Step _ ((b11, blk 3 [.int .i64 (0 : Nat)]) :: (l1, .loop (Loop.at r1 .busy r1.pending)) :: (b9, blk 3 [.int .i64 (k + 1 : Nat)]) :: R) W w := hs
        repeat (first | refine CWI.seq ?_ | refine CWI.block ?_ | refine CWI.skip ?_ | refine CWI.label ?_ | refine CWI.exit ?_ | refine CWI.condT rfl ?_ | refine CWI.condF rfl ?_)
        refine CWI.rangeFunc (l0 := l1) (r0 := Loop.at r1 .busy r1.pending) (cap := [.pointer (some ⟨b, 0, none⟩)]) en44 rfl hs hs.tail.hd ?_
        intro l2 r2 W2 hrec2 hrs2 hrp2 hs2
        clear hs
        refine (hit W2 (hs2.inCell (List.mem_cons_of_mem _ (List.mem_cons_of_mem _ (List.mem_cons_of_mem _ (List.mem_cons_of_mem _ (hRm hmb))))) rfl) (hg.step (Step.callAll hs00 hs2))
          (J := fun j L W' => j ≤ x.length ∧ L = (l2, .loop r2) :: (b11, blk 3 [.int .i64 j]) :: (l1, .loop (Loop.at r1 .busy r1.pending)) :: (b9, blk 3 [.int .i64 (k + 1 : Nat)]) :: R ∧ Step (((l1, .loop r1) :: (b9, blk 3 [.int .i64 k]) :: R).map (·.1)) L W W')
          (Jx := fun W' => ∃ v : Int, Step (((l1, .loop r1) :: (b9, blk 3 [.int .i64 k]) :: R).map (·.1)) ((l2, .loop (Loop.at r2 .done (some (.exit 4)))) :: (b11, blk 3 [.int .i64 v]) :: (l1, .loop (Loop.at r1 .busy r1.pending)) :: (b9, blk 3 [.int .i64 (k + 1 : Nat)]) :: R) W W')
          (L0 := (l2, .loop r2) :: (b11, blk 3 [.int .i64 (0 : Nat)]) :: (l1, .loop (Loop.at r1 .busy r1.pending)) :: (b9, blk 3 [.int .i64 (k + 1 : Nat)]) :: R) ?_ ?_ ?_ ?_).mono ?_
        · rintro j L W W' ⟨hj, rfl, hs⟩ h'
          exact ⟨hj, rfl, hs.callE h'⟩
        · intro p hp
          exact lt_of_get (hs2.has p hp)
        · exact ⟨Nat.zero_le _, rfl, hs2⟩
        · rintro j q L W3 hq ⟨hj, rfl, hs3⟩
          have hltj := (List.getElem?_eq_some_iff.1 hq).1
          have hs := hs3.own0
          refine yields_of (n := 93) hrec2 hrs2 rfl hs ?_
          repeat (first | refine CWI.seq ?_ | refine CWI.block ?_ | refine CWI.skip ?_ | refine CWI.label ?_ | refine CWI.exit ?_ | refine CWI.condT rfl ?_ | refine CWI.condF rfl ?_)
          refine CWI.reg rfl (fun _ _ _ h => h) ?_
          refine WL.val rfl (run_assign) ?_
          refine WL.nil ?_
          refine ⟨_, _, _, _, hs, hrs2, fun w3 hs => ?_⟩
          have hin : ∀ {q : Nat × Obj} {a b c d : Nat × Obj}, q ∈ R → q ∈ a :: b :: c :: d :: R := fun h => List.mem_cons_of_mem _ (List.mem_cons_of_mem _ (List.mem_cons_of_mem _ (List.mem_cons_of_mem _ h)))
          repeat (first | refine CWI.seq ?_ | refine CWI.block ?_ | refine CWI.skip ?_ | refine CWI.label ?_ | refine CWI.exit ?_ | refine CWI.condT rfl ?_ | refine CWI.condF rfl ?_)
          refine CWI.reg rfl (fun _ _ _ h => h) ?_
          refine WL.val rfl (run_load1 ty3 rfl ((hs.c1 rfl))) ?_
          refine WL.val rfl (run_load1 ty34 rfl ((hs.inCell (hin (hRm hm5)) rfl))) ?_
          refine WL.val rfl (run_lenSl Tryd.underlying34 rfl) ?_
          refine WL.val rfl (run_bF (run_geq rfl rfl) (by omega)) ?_
          refine WL.val rfl (run_move) ?_
          first | (refine WL.yes rfl rfl rfl ?_; refine WL.val rfl (run_move) ?_) | refine WL.no rfl rfl rfl (.inl rfl) ?_ | refine WL.no rfl rfl rfl (.inr rfl) ?_
          refine WL.yes rfl rfl rfl ?_
          refine WL.val rfl (run_load1 ty34 rfl ((hs.inCell (hin (hRm hm5)) rfl))) ?_
          refine WL.yes rfl rfl rfl ?_
          refine WL.val rfl (run_load1 ty3 rfl ((hs.c1 rfl))) ?_
          first | (refine WL.yes rfl rfl rfl ?_; (first | refine WL.val rfl (run_ixSlN Tryd.underlying34 ty9 rfl rfl (by omega)) ?_ | refine WL.val rfl (run_ixSl Tryd.underlying34 ty9 rfl rfl (by omega)) ?_)) | refine WL.no rfl rfl rfl (.inl rfl) ?_ | refine WL.no rfl rfl rfl (.inr rfl) ?_
          refine WL.yes rfl rfl rfl ?_
          refine WL.val rfl (run_load1 ty9 rfl ((hcell hs (fun q h => hin h) hq))) ?_
          refine WL.yes rfl rfl rfl ?_
          refine WL.val rfl (run_bF (run_strNe rfl rfl) (by (exact fun h => h rfl))) ?_
          first | refine WL.val rfl (run_pickT rfl) ?_ | refine WL.val rfl (run_pickF rfl) ?_
          refine WL.nil ?_
          repeat (first | refine CWI.seq ?_ | refine CWI.block ?_ | refine CWI.skip ?_ | refine CWI.label ?_ | refine CWI.exit ?_ | refine CWI.condT rfl ?_ | refine CWI.condF rfl ?_)
          refine CWI.reg rfl (fun _ _ _ h => h) ?_
          refine WL.val rfl (run_load1 ty3 rfl ((hs.c1 rfl))) ?_
          refine WL.val rfl (run_add (c := ((j + 1 : Nat) : Int)) rfl rfl (by omega) (by omega)) ?_
          first | refine WL.store1 ty3 rfl rfl (rfl) hs (by first | (simp; done) | omega | (simp only [List.length_append, List.length_replicate, List.length_cons, List.length_nil, List.length_set]; omega) | (simp [Ent.cells, u8s]; done) | exact Nat.le_of_ble_eq_true rfl) (fun w hs => ?_) | refine WL.store1_1 ty3 rfl rfl (rfl) hs (by first | (simp; done) | omega | (simp only [List.length_append, List.length_replicate, List.length_cons, List.length_nil, List.length_set]; omega) | (simp [Ent.cells, u8s]; done) | exact Nat.le_of_ble_eq_true rfl) (fun w hs => ?_) | refine WL.store1_2 ty3 rfl rfl (rfl) hs (by first | (simp; done) | omega | (simp only [List.length_append, List.length_replicate, List.length_cons, List.length_nil, List.length_set]; omega) | (simp [Ent.cells, u8s]; done) | exact Nat.le_of_ble_eq_true rfl) (fun w hs => ?_) | refine WL.store1_3 ty3 rfl rfl (rfl) hs (by first | (simp; done) | omega | (simp only [List.length_append, List.length_replicate, List.length_cons, List.length_nil, List.length_set]; omega) | (simp [Ent.cells, u8s]; done) | exact Nat.le_of_ble_eq_true rfl) (fun w hs => ?_) | refine WL.store1_4 ty3 rfl rfl (rfl) hs (by first | (simp; done) | omega | (simp only [List.length_append, List.length_replicate, List.length_cons, List.length_nil, List.length_set]; omega) | (simp [Ent.cells, u8s]; done) | exact Nat.le_of_ble_eq_true rfl) (fun w hs => ?_) | refine WL.store1 ty3 rfl rfl (rfl) hs (by first | (simp; done) | omega | (simp only [List.length_append, List.length_replicate, List.length_cons, List.length_nil, List.length_set]; omega) | (simp [Ent.cells, u8s]; done) | exact Nat.le_of_ble_eq_true rfl) (fun w hs => ?_)
          refine WL.nil ?_
          by_cases hgt : st < ((j + 1 : Nat) : Int)
          · repeat (first | refine CWI.seq ?_ | refine CWI.block ?_ | refine CWI.skip ?_ | refine CWI.label ?_ | refine CWI.exit ?_ | refine CWI.condT rfl ?_ | refine CWI.condF rfl ?_)
            refine CWI.reg rfl (fun _ _ _ h => h) ?_
            refine WL.val rfl (run_load1 ty3 rfl ((hs.c1 rfl))) ?_
            refine WL.val rfl (run_load1 ty3 rfl ((hs.inCell (hin (hRm hm3)) rfl))) ?_
            refine WL.val rfl (run_bT (run_gtr rfl rfl) (by omega)) ?_
            refine WL.nil ?_
            repeat (first | refine CWI.seq ?_ | refine CWI.block ?_ | refine CWI.skip ?_ | refine CWI.label ?_ | refine CWI.exit ?_ | refine CWI.condT rfl ?_ | refine CWI.condF rfl ?_)
            refine ⟨_, _, _, _, hs, fun w' hs' => ?_⟩
            show (if false = true then _ else _)
            rw [if_neg (by simp)]
            exact ⟨_, Step.callAll hs3 hs'⟩
          · repeat (first | refine CWI.seq ?_ | refine CWI.block ?_ | refine CWI.skip ?_ | refine CWI.label ?_ | refine CWI.exit ?_ | refine CWI.condT rfl ?_ | refine CWI.condF rfl ?_)
            refine CWI.reg rfl (fun _ _ _ h => h) ?_
            refine WL.val rfl (run_load1 ty3 rfl ((hs.c1 rfl))) ?_
            refine WL.val rfl (run_load1 ty3 rfl ((hs.inCell (hin (hRm hm3)) rfl))) ?_
            refine WL.val rfl (run_bF (run_gtr rfl rfl) (by omega)) ?_
            refine WL.nil ?_
            repeat (first | refine CWI.seq ?_ | refine CWI.block ?_ | refine CWI.skip ?_ | refine CWI.label ?_ | refine CWI.exit ?_ | refine CWI.condT rfl ?_ | refine CWI.condF rfl ?_)
            refine ⟨_, _, _, _, hs, fun w' hs' => ?_⟩
            rw [Loop.at_back hrs2 hrp2] at hs'
            rw [if_pos rfl]
            exact ⟨_, hs', by omega, rfl, Step.callAll hs3 hs'⟩
        · have hin : ∀ {q : Nat × Obj} {a b : Nat × Obj}, q ∈ R → q ∈ a :: b :: R := fun h => List.mem_cons_of_mem _ (List.mem_cons_of_mem _ h)
          rintro e W4 ⟨hret, ⟨L, hj, rfl, hs4⟩ | ⟨v, hs4⟩⟩
          · refine ⟨hret, behind_none hs4 hrs2 hrp2 fun w hs => ?_⟩
            replace hs := Step.dropL (L1 := [_, _]) hs
            by_cases hT0 : T = 0
            · by_cases hgt : st < ((k + 1 : Nat) : Int)
              · repeat (first | refine CWI.seq ?_ | refine CWI.block ?_ | refine CWI.skip ?_ | refine CWI.label ?_ | refine CWI.exit ?_ | refine CWI.condT rfl ?_ | refine CWI.condF rfl ?_)
                refine CWI.reg rfl (fun _ _ _ h => h) ?_
                refine WL.val rfl (run_load1 ty3 rfl ((hs.inCell (hin hR8) rfl))) ?_
                refine WL.val rfl (run_bT (run_eql rfl rfl) (by omega)) ?_
                refine WL.val rfl (run_move) ?_
                refine WL.yes rfl rfl rfl ?_
                refine WL.val rfl (run_load1 ty3 rfl ((hs.c1 rfl))) ?_
                refine WL.yes rfl rfl rfl ?_
                refine WL.val rfl (run_load1 ty3 rfl ((hs.inCell (hin (hRm hm3)) rfl))) ?_
                refine WL.yes rfl rfl rfl ?_
                refine WL.val rfl (run_bT (run_gtr rfl rfl) (by omega)) ?_
                first | refine WL.val rfl (run_pickT rfl) ?_ | refine WL.val rfl (run_pickF rfl) ?_
                refine WL.nil ?_
                repeat (first | refine CWI.seq ?_ | refine CWI.block ?_ | refine CWI.skip ?_ | refine CWI.label ?_ | refine CWI.exit ?_ | refine CWI.condT rfl ?_ | refine CWI.condF rfl ?_)
                refine ⟨_, _, _, _, hs, fun w' hs' => ?_⟩
                show (if false = true then _ else _)
                rw [if_neg (by simp)]
                exact ⟨k, hlt, hT0, Step.callAll hs00 hs'⟩
              · repeat (first | refine CWI.seq ?_ | refine CWI.block ?_ | refine CWI.skip ?_ | refine CWI.label ?_ | refine CWI.exit ?_ | refine CWI.condT rfl ?_ | refine CWI.condF rfl ?_)
                refine CWI.reg rfl (fun _ _ _ h => h) ?_
                refine WL.val rfl (run_load1 ty3 rfl ((hs.inCell (hin hR8) rfl))) ?_
                refine WL.val rfl (run_bT (run_eql rfl rfl) (by omega)) ?_
                refine WL.val rfl (run_move) ?_
                refine WL.yes rfl rfl rfl ?_
                refine WL.val rfl (run_load1 ty3 rfl ((hs.c1 rfl))) ?_
                refine WL.yes rfl rfl rfl ?_
                refine WL.val rfl (run_load1 ty3 rfl ((hs.inCell (hin (hRm hm3)) rfl))) ?_
                refine WL.yes rfl rfl rfl ?_
                refine WL.val rfl (run_bF (run_gtr rfl rfl) (by omega)) ?_
                first | refine WL.val rfl (run_pickT rfl) ?_ | refine WL.val rfl (run_pickF rfl) ?_
                refine WL.nil ?_
                repeat (first | refine CWI.seq ?_ | refine CWI.block ?_ | refine CWI.skip ?_ | refine CWI.label ?_ | refine CWI.exit ?_ | refine CWI.condT rfl ?_ | refine CWI.condF rfl ?_)
                refine ⟨_, _, _, _, hs, fun w' hs' => ?_⟩
                rw [Loop.at_back hrs1 hrp1] at hs'
                rw [if_pos rfl]
                exact ⟨_, hs', by omega, rfl, Step.callAll hs00 hs'⟩
            · repeat (first | refine CWI.seq ?_ | refine CWI.block ?_ | refine CWI.skip ?_ | refine CWI.label ?_ | refine CWI.exit ?_ | refine CWI.condT rfl ?_ | refine CWI.condF rfl ?_)
              refine CWI.reg rfl (fun _ _ _ h => h) ?_
              refine WL.val rfl (run_load1 ty3 rfl ((hs.inCell (hin hR8) rfl))) ?_
              refine WL.val rfl (run_bF (run_eql rfl rfl) (by omega)) ?_
              refine WL.val rfl (run_move) ?_
              first | (refine WL.yes rfl rfl rfl ?_; (first | refine WL.val rfl (run_load1 ty3 rfl (hs.c0 rfl)) ?_ | refine WL.val rfl (run_load1 ty3 rfl (hs.c1 rfl)) ?_ | refine WL.val rfl (run_load1 ty3 rfl (hs.c2 rfl)) ?_ | refine WL.val rfl (run_load1 ty3 rfl (hs.c3 rfl)) ?_ | refine WL.val rfl (run_load1 ty3 rfl (hs.c4 rfl)) ?_ | refine WL.val rfl (run_load1 ty3 rfl (hs.c5 rfl)) ?_ | refine WL.val rfl (run_load1 ty3 rfl (hs.c0 rfl)) ?_)) | refine WL.no rfl rfl rfl (.inl rfl) ?_ | refine WL.no rfl rfl rfl (.inr rfl) ?_
              first | (refine WL.yes rfl rfl rfl ?_; (first | refine WL.val rfl (run_load1 ty3 rfl (hs.c0 rfl)) ?_ | refine WL.val rfl (run_load1 ty3 rfl (hs.c1 rfl)) ?_ | refine WL.val rfl (run_load1 ty3 rfl (hs.c2 rfl)) ?_ | refine WL.val rfl (run_load1 ty3 rfl (hs.c3 rfl)) ?_ | refine WL.val rfl (run_load1 ty3 rfl (hs.c4 rfl)) ?_ | refine WL.val rfl (run_load1 ty3 rfl (hs.c5 rfl)) ?_ | refine WL.val rfl (run_load1 ty3 rfl (hs.c0 rfl)) ?_)) | refine WL.no rfl rfl rfl (.inl rfl) ?_ | refine WL.no rfl rfl rfl (.inr rfl) ?_
              first | (refine WL.yes rfl rfl rfl ?_; refine WL.val rfl (run_gtr rfl rfl) ?_) | refine WL.no rfl rfl rfl (.inl rfl) ?_ | refine WL.no rfl rfl rfl (.inr rfl) ?_
              first | refine WL.val rfl (run_pickT rfl) ?_ | refine WL.val rfl (run_pickF rfl) ?_
              refine WL.nil ?_
              repeat (first | refine CWI.seq ?_ | refine CWI.block ?_ | refine CWI.skip ?_ | refine CWI.label ?_ | refine CWI.exit ?_ | refine CWI.condT rfl ?_ | refine CWI.condF rfl ?_)
              refine ⟨_, _, _, _, hs, fun w' hs' => ?_⟩
              rw [Loop.at_back hrs1 hrp1] at hs'
              rw [if_pos rfl]
              exact ⟨_, hs', by omega, rfl, Step.callAll hs00 hs'⟩
          · refine ⟨hret, behind_some hs4 rfl rfl fun w hs => ?_⟩
            refine CWI.exit ?_
            replace hs := Step.dropL (L1 := [_, _]) hs
            by_cases hT0 : T = 0
            · by_cases hgt : st < ((k + 1 : Nat) : Int)
              · repeat (first | refine CWI.seq ?_ | refine CWI.block ?_ | refine CWI.skip ?_ | refine CWI.label ?_ | refine CWI.exit ?_ | refine CWI.condT rfl ?_ | refine CWI.condF rfl ?_)
                refine CWI.reg rfl (fun _ _ _ h => h) ?_
                refine WL.val rfl (run_load1 ty3 rfl ((hs.inCell (hin hR8) rfl))) ?_
                refine WL.val rfl (run_bT (run_eql rfl rfl) (by omega)) ?_
                refine WL.val rfl (run_move) ?_
                refine WL.yes rfl rfl rfl ?_
                refine WL.val rfl (run_load1 ty3 rfl ((hs.c1 rfl))) ?_
                refine WL.yes rfl rfl rfl ?_
                refine WL.val rfl (run_load1 ty3 rfl ((hs.inCell (hin (hRm hm3)) rfl))) ?_
                refine WL.yes rfl rfl rfl ?_
                refine WL.val rfl (run_bT (run_gtr rfl rfl) (by omega)) ?_
                first | refine WL.val rfl (run_pickT rfl) ?_ | refine WL.val rfl (run_pickF rfl) ?_
                refine WL.nil ?_
                repeat (first | refine CWI.seq ?_ | refine CWI.block ?_ | refine CWI.skip ?_ | refine CWI.label ?_ | refine CWI.exit ?_ | refine CWI.condT rfl ?_ | refine CWI.condF rfl ?_)
                refine ⟨_, _, _, _, hs, fun w' hs' => ?_⟩
                show (if false = true then _ else _)
                rw [if_neg (by simp)]
                exact ⟨k, hlt, hT0, Step.callAll hs00 hs'⟩
              · repeat (first | refine CWI.seq ?_ | refine CWI.block ?_ | refine CWI.skip ?_ | refine CWI.label ?_ | refine CWI.exit ?_ | refine CWI.condT rfl ?_ | refine CWI.condF rfl ?_)
                refine CWI.reg rfl (fun _ _ _ h => h) ?_
                refine WL.val rfl (run_load1 ty3 rfl ((hs.inCell (hin hR8) rfl))) ?_
                refine WL.val rfl (run_bT (run_eql rfl rfl) (by omega)) ?_
                refine WL.val rfl (run_move) ?_
                refine WL.yes rfl rfl rfl ?_
                refine WL.val rfl (run_load1 ty3 rfl ((hs.c1 rfl))) ?_
                refine WL.yes rfl rfl rfl ?_
                refine WL.val rfl (run_load1 ty3 rfl ((hs.inCell (hin (hRm hm3)) rfl))) ?_
                refine WL.yes rfl rfl rfl ?_
                refine WL.val rfl (run_bF (run_gtr rfl rfl) (by omega)) ?_
                first | refine WL.val rfl (run_pickT rfl) ?_ | refine WL.val rfl (run_pickF rfl) ?_
                refine WL.nil ?_
                repeat (first | refine CWI.seq ?_ | refine CWI.block ?_ | refine CWI.skip ?_ | refine CWI.label ?_ | refine CWI.exit ?_ | refine CWI.condT rfl ?_ | refine CWI.condF rfl ?_)
                refine ⟨_, _, _, _, hs, fun w' hs' => ?_⟩
                rw [Loop.at_back hrs1 hrp1] at hs'
                rw [if_pos rfl]
                exact ⟨_, hs', by omega, rfl, Step.callAll hs00 hs'⟩
            · repeat (first | refine CWI.seq ?_ | refine CWI.block ?_ | refine CWI.skip ?_ | refine CWI.label ?_ | refine CWI.exit ?_ | refine CWI.condT rfl ?_ | refine CWI.condF rfl ?_)
              refine CWI.reg rfl (fun _ _ _ h => h) ?_
              refine WL.val rfl (run_load1 ty3 rfl ((hs.inCell (hin hR8) rfl))) ?_
              refine WL.val rfl (run_bF (run_eql rfl rfl) (by omega)) ?_
              refine WL.val rfl (run_move) ?_
              first | (refine WL.yes rfl rfl rfl ?_; (first | refine WL.val rfl (run_load1 ty3 rfl (hs.c0 rfl)) ?_ | refine WL.val rfl (run_load1 ty3 rfl (hs.c1 rfl)) ?_ | refine WL.val rfl (run_load1 ty3 rfl (hs.c2 rfl)) ?_ | refine WL.val rfl (run_load1 ty3 rfl (hs.c3 rfl)) ?_ | refine WL.val rfl (run_load1 ty3 rfl (hs.c4 rfl)) ?_ | refine WL.val rfl (run_load1 ty3 rfl (hs.c5 rfl)) ?_ | refine WL.val rfl (run_load1 ty3 rfl (hs.c0 rfl)) ?_)) | refine WL.no rfl rfl rfl (.inl rfl) ?_ | refine WL.no rfl rfl rfl (.inr rfl) ?_
              first | (refine WL.yes rfl rfl rfl ?_; (first | refine WL.val rfl (run_load1 ty3 rfl (hs.c0 rfl)) ?_ | refine WL.val rfl (run_load1 ty3 rfl (hs.c1 rfl)) ?_ | refine WL.val rfl (run_load1 ty3 rfl (hs.c2 rfl)) ?_ | refine WL.val rfl (run_load1 ty3 rfl (hs.c3 rfl)) ?_ | refine WL.val rfl (run_load1 ty3 rfl (hs.c4 rfl)) ?_ | refine WL.val rfl (run_load1 ty3 rfl (hs.c5 rfl)) ?_ | refine WL.val rfl (run_load1 ty3 rfl (hs.c0 rfl)) ?_)) | refine WL.no rfl rfl rfl (.inl rfl) ?_ | refine WL.no rfl rfl rfl (.inr rfl) ?_
              first | (refine WL.yes rfl rfl rfl ?_; refine WL.val rfl (run_gtr rfl rfl) ?_) | refine WL.no rfl rfl rfl (.inl rfl) ?_ | refine WL.no rfl rfl rfl (.inr rfl) ?_
              first | refine WL.val rfl (run_pickT rfl) ?_ | refine WL.val rfl (run_pickF rfl) ?_
              refine WL.nil ?_
              repeat (first | refine CWI.seq ?_ | refine CWI.block ?_ | refine CWI.skip ?_ | refine CWI.label ?_ | refine CWI.exit ?_ | refine CWI.condT rfl ?_ | refine CWI.condF rfl ?_)
              refine ⟨_, _, _, _, hs, fun w' hs' => ?_⟩
              rw [Loop.at_back hrs1 hrp1] at hs'
              rw [if_pos rfl]
              exact ⟨_, hs', by omega, rfl, Step.callAll hs00 hs'⟩
      · have hin : ∀ {q : Nat × Obj} {a b : Nat × Obj}, q ∈ R → q ∈ a :: b :: R := fun h => List.mem_cons_of_mem _ (List.mem_cons_of_mem _ h)
        rintro e W5 ⟨hret, ⟨L, hk, rfl, hs5⟩ | ⟨k, hk, hT0, hs5⟩⟩
        · refine ⟨hret, behind_none hs5 hrs1 hrp1 fun w hs => ?_⟩
          by_cases hT1 : T = 1
          · repeat (first | refine CW.seq ?_ | refine CW.block ?_ | refine CW.skip ?_ | refine CW.label ?_ | refine CW.exit ?_ | refine CW.condT rfl ?_ | refine CW.condF rfl ?_)
            refine CW.reg ?_
            refine WL.val rfl (run_load1 ty3 rfl ((hs.inCell (hin hR8) rfl))) ?_
            refine WL.val rfl (run_bT (run_eql rfl rfl) (by omega)) ?_
            refine WL.val rfl (run_move) ?_
            refine WL.yes rfl rfl rfl ?_
            refine WL.val rfl (run_load1 ty3 rfl ((hs.c1 rfl))) ?_
            refine WL.yes rfl rfl rfl ?_
            refine WL.val rfl (run_load1 ty34 rfl ((hs.inCell (hin (hRm hm5)) rfl))) ?_
            first | (refine WL.yes rfl rfl rfl ?_; refine WL.val rfl (run_lenSl Tryd.underlying34 rfl) ?_) | refine WL.no rfl rfl rfl (.inl rfl) ?_ | refine WL.no rfl rfl rfl (.inr rfl) ?_
            refine WL.yes rfl rfl rfl ?_
            refine WL.val rfl (run_bF (run_neq rfl rfl) (by (exact fun h => h rfl))) ?_
            first | refine WL.val rfl (run_pickT rfl) ?_ | refine WL.val rfl (run_pickF rfl) ?_
            refine WL.nil ?_
            repeat (first | refine CW.seq ?_ | refine CW.block ?_ | refine CW.skip ?_ | refine CW.label ?_ | refine CW.exit ?_ | refine CW.condT rfl ?_ | refine CW.condF rfl ?_)
            refine CW.reg ?_
            refine WL.val rfl (run_load1 ty3 rfl ((hs.inCell (hin hR8) rfl))) ?_
            refine WL.nil ?_
            repeat (first | refine CW.seq ?_ | refine CW.block ?_ | refine CW.skip ?_ | refine CW.label ?_ | refine CW.exit ?_ | refine CW.condT rfl ?_ | refine CW.condF rfl ?_)
            refine CW.reg ?_
            refine WL.alloc ty3 rfl hs (fun b8 w hs => ?_)
            first | refine WL.store1 ty3 rfl rfl (rfl) hs (by first | (simp; done) | omega | (simp only [List.length_append, List.length_replicate, List.length_cons, List.length_nil, List.length_set]; omega) | (simp [Ent.cells, u8s]; done) | exact Nat.le_of_ble_eq_true rfl) (fun w hs => ?_) | refine WL.store1_1 ty3 rfl rfl (rfl) hs (by first | (simp; done) | omega | (simp only [List.length_append, List.length_replicate, List.length_cons, List.length_nil, List.length_set]; omega) | (simp [Ent.cells, u8s]; done) | exact Nat.le_of_ble_eq_true rfl) (fun w hs => ?_) | refine WL.store1_2 ty3 rfl rfl (rfl) hs (by first | (simp; done) | omega | (simp only [List.length_append, List.length_replicate, List.length_cons, List.length_nil, List.length_set]; omega) | (simp [Ent.cells, u8s]; done) | exact Nat.le_of_ble_eq_true rfl) (fun w hs => ?_) | refine WL.store1_3 ty3 rfl rfl (rfl) hs (by first | (simp; done) | omega | (simp only [List.length_append, List.length_replicate, List.length_cons, List.length_nil, List.length_set]; omega) | (simp [Ent.cells, u8s]; done) | exact Nat.le_of_ble_eq_true rfl) (fun w hs => ?_) | refine WL.store1_4 ty3 rfl rfl (rfl) hs (by first | (simp; done) | omega | (simp only [List.length_append, List.length_replicate, List.length_cons, List.length_nil, List.length_set]; omega) | (simp [Ent.cells, u8s]; done) | exact Nat.le_of_ble_eq_true rfl) (fun w hs => ?_) | refine WL.store1 ty3 rfl rfl (rfl) hs (by first | (simp; done) | omega | (simp only [List.length_append, List.length_replicate, List.length_cons, List.length_nil, List.length_set]; omega) | (simp [Ent.cells, u8s]; done) | exact Nat.le_of_ble_eq_true rfl) (fun w hs => ?_)
            refine WL.nil ?_
            repeat (first | refine CW.seq ?_ | refine CW.block ?_ | refine CW.skip ?_ | refine CW.label ?_ | refine CW.exit ?_ | refine CW.condT rfl ?_ | refine CW.condF rfl ?_)
            refine CW.reg ?_
            refine WL.val rfl (run_load1 ty3 rfl ((hs.c0 rfl))) ?_
            refine WL.val rfl (run_add (c := ((T + 1 : Nat) : Int)) rfl rfl (by omega) (by omega)) ?_
            first | refine WL.store1 ty3 rfl rfl (rfl) hs (by first | (simp; done) | omega | (simp only [List.length_append, List.length_replicate, List.length_cons, List.length_nil, List.length_set]; omega) | (simp [Ent.cells, u8s]; done) | exact Nat.le_of_ble_eq_true rfl) (fun w hs => ?_) | refine WL.store1_1 ty3 rfl rfl (rfl) hs (by first | (simp; done) | omega | (simp only [List.length_append, List.length_replicate, List.length_cons, List.length_nil, List.length_set]; omega) | (simp [Ent.cells, u8s]; done) | exact Nat.le_of_ble_eq_true rfl) (fun w hs => ?_) | refine WL.store1_2 ty3 rfl rfl (rfl) hs (by first | (simp; done) | omega | (simp only [List.length_append, List.length_replicate, List.length_cons, List.length_nil, List.length_set]; omega) | (simp [Ent.cells, u8s]; done) | exact Nat.le_of_ble_eq_true rfl) (fun w hs => ?_) | refine WL.store1_3 ty3 rfl rfl (rfl) hs (by first | (simp; done) | omega | (simp only [List.length_append, List.length_replicate, List.length_cons, List.length_nil, List.length_set]; omega) | (simp [Ent.cells, u8s]; done) | exact Nat.le_of_ble_eq_true rfl) (fun w hs => ?_) | refine WL.store1_4 ty3 rfl rfl (rfl) hs (by first | (simp; done) | omega | (simp only [List.length_append, List.length_replicate, List.length_cons, List.length_nil, List.length_set]; omega) | (simp [Ent.cells, u8s]; done) | exact Nat.le_of_ble_eq_true rfl) (fun w hs => ?_) | refine WL.store1 ty3 rfl rfl (rfl) hs (by first | (simp; done) | omega | (simp only [List.length_append, List.length_replicate, List.length_cons, List.length_nil, List.length_set]; omega) | (simp [Ent.cells, u8s]; done) | exact Nat.le_of_ble_eq_true rfl) (fun w hs => ?_)
            refine WL.nil ?_
            rw [← hR] at hs
            replace hs := Step.dropX (A := [_]) (Step.dropX (A := [_]) hs)
            replace hs := (Step.dropX (A := [_, _]) hs).perm ((List.Perm.swap _ _ _).cons _)
            repeat (first | refine CW.seq ?_ | refine CW.block ?_ | refine CW.skip ?_ | refine CW.label ?_ | refine CW.exit ?_ | refine CW.condT rfl ?_ | refine CW.condF rfl ?_)
            refine (show ∃ m', _ ∧ _ from ⟨2 - (T + 1), by omega, T + 1, b0 :: bs, _, by omega, rfl, rfl, hs, rfl, rfl, rfl, rfl, rfl, trivial⟩)
          · repeat (first | refine CW.seq ?_ | refine CW.block ?_ | refine CW.skip ?_ | refine CW.label ?_ | refine CW.exit ?_ | refine CW.condT rfl ?_ | refine CW.condF rfl ?_)
            refine CW.reg ?_
            refine WL.val rfl (run_load1 ty3 rfl ((hs.inCell (hin hR8) rfl))) ?_
            refine WL.val rfl (run_bF (run_eql rfl rfl) (by omega)) ?_
            refine WL.val rfl (run_move) ?_
            first | (refine WL.yes rfl rfl rfl ?_; (first | refine WL.val rfl (run_load1 ty3 rfl (hs.c0 rfl)) ?_ | refine WL.val rfl (run_load1 ty3 rfl (hs.c1 rfl)) ?_ | refine WL.val rfl (run_load1 ty3 rfl (hs.c2 rfl)) ?_ | refine WL.val rfl (run_load1 ty3 rfl (hs.c3 rfl)) ?_ | refine WL.val rfl (run_load1 ty3 rfl (hs.c4 rfl)) ?_ | refine WL.val rfl (run_load1 ty3 rfl (hs.c5 rfl)) ?_ | refine WL.val rfl (run_load1 ty3 rfl (hs.c0 rfl)) ?_)) | refine WL.no rfl rfl rfl (.inl rfl) ?_ | refine WL.no rfl rfl rfl (.inr rfl) ?_
            first | (refine WL.yes rfl rfl rfl ?_; (first | refine WL.val rfl (run_load1 ty34 rfl (hs.c0 rfl)) ?_ | refine WL.val rfl (run_load1 ty34 rfl (hs.c1 rfl)) ?_ | refine WL.val rfl (run_load1 ty34 rfl (hs.c2 rfl)) ?_ | refine WL.val rfl (run_load1 ty34 rfl (hs.c3 rfl)) ?_ | refine WL.val rfl (run_load1 ty34 rfl (hs.c4 rfl)) ?_ | refine WL.val rfl (run_load1 ty34 rfl (hs.c5 rfl)) ?_ | refine WL.val rfl (run_load1 ty34 rfl (hs.c0 rfl)) ?_)) | refine WL.no rfl rfl rfl (.inl rfl) ?_ | refine WL.no rfl rfl rfl (.inr rfl) ?_
            first | (refine WL.yes rfl rfl rfl ?_; refine WL.val rfl (run_lenSl Tryd.underlying34 rfl) ?_) | refine WL.no rfl rfl rfl (.inl rfl) ?_ | refine WL.no rfl rfl rfl (.inr rfl) ?_
            first | (refine WL.yes rfl rfl rfl ?_; refine WL.val rfl (run_neq rfl rfl) ?_) | refine WL.no rfl rfl rfl (.inl rfl) ?_ | refine WL.no rfl rfl rfl (.inr rfl) ?_
            first | refine WL.val rfl (run_pickT rfl) ?_ | refine WL.val rfl (run_pickF rfl) ?_
            refine WL.nil ?_
            repeat (first | refine CW.seq ?_ | refine CW.block ?_ | refine CW.skip ?_ | refine CW.label ?_ | refine CW.exit ?_ | refine CW.condT rfl ?_ | refine CW.condF rfl ?_)
            refine CW.reg ?_
            refine WL.val rfl (run_load1 ty3 rfl ((hs.inCell (hin hR8) rfl))) ?_
            refine WL.nil ?_
            repeat (first | refine CW.seq ?_ | refine CW.block ?_ | refine CW.skip ?_ | refine CW.label ?_ | refine CW.exit ?_ | refine CW.condT rfl ?_ | refine CW.condF rfl ?_)
            refine CW.reg ?_
            refine WL.alloc ty3 rfl hs (fun b8 w hs => ?_)
            first | refine WL.store1 ty3 rfl rfl (rfl) hs (by first | (simp; done) | omega | (simp only [List.length_append, List.length_replicate, List.length_cons, List.length_nil, List.length_set]; omega) | (simp [Ent.cells, u8s]; done) | exact Nat.le_of_ble_eq_true rfl) (fun w hs => ?_) | refine WL.store1_1 ty3 rfl rfl (rfl) hs (by first | (simp; done) | omega | (simp only [List.length_append, List.length_replicate, List.length_cons, List.length_nil, List.length_set]; omega) | (simp [Ent.cells, u8s]; done) | exact Nat.le_of_ble_eq_true rfl) (fun w hs => ?_) | refine WL.store1_2 ty3 rfl rfl (rfl) hs (by first | (simp; done) | omega | (simp only [List.length_append, List.length_replicate, List.length_cons, List.length_nil, List.length_set]; omega) | (simp [Ent.cells, u8s]; done) | exact Nat.le_of_ble_eq_true rfl) (fun w hs => ?_) | refine WL.store1_3 ty3 rfl rfl (rfl) hs (by first | (simp; done) | omega | (simp only [List.length_append, List.length_replicate, List.length_cons, List.length_nil, List.length_set]; omega) | (simp [Ent.cells, u8s]; done) | exact Nat.le_of_ble_eq_true rfl) (fun w hs => ?_) | refine WL.store1_4 ty3 rfl rfl (rfl) hs (by first | (simp; done) | omega | (simp only [List.length_append, List.length_replicate, List.length_cons, List.length_nil, List.length_set]; omega) | (simp [Ent.cells, u8s]; done) | exact Nat.le_of_ble_eq_true rfl) (fun w hs => ?_) | refine WL.store1 ty3 rfl rfl (rfl) hs (by first | (simp; done) | omega | (simp only [List.length_append, List.length_replicate, List.length_cons, List.length_nil, List.length_set]; omega) | (simp [Ent.cells, u8s]; done) | exact Nat.le_of_ble_eq_true rfl) (fun w hs => ?_)
            refine WL.nil ?_
            repeat (first | refine CW.seq ?_ | refine CW.block ?_ | refine CW.skip ?_ | refine CW.label ?_ | refine CW.exit ?_ | refine CW.condT rfl ?_ | refine CW.condF rfl ?_)
            refine CW.reg ?_
            refine WL.val rfl (run_load1 ty3 rfl ((hs.c0 rfl))) ?_
            refine WL.val rfl (run_add (c := ((T + 1 : Nat) : Int)) rfl rfl (by omega) (by omega)) ?_
            first | refine WL.store1 ty3 rfl rfl (rfl) hs (by first | (simp; done) | omega | (simp only [List.length_append, List.length_replicate, List.length_cons, List.length_nil, List.length_set]; omega) | (simp [Ent.cells, u8s]; done) | exact Nat.le_of_ble_eq_true rfl) (fun w hs => ?_) | refine WL.store1_1 ty3 rfl rfl (rfl) hs (by first | (simp; done) | omega | (simp only [List.length_append, List.length_replicate, List.length_cons, List.length_nil, List.length_set]; omega) | (simp [Ent.cells, u8s]; done) | exact Nat.le_of_ble_eq_true rfl) (fun w hs => ?_) | refine WL.store1_2 ty3 rfl rfl (rfl) hs (by first | (simp; done) | omega | (simp only [List.length_append, List.length_replicate, List.length_cons, List.length_nil, List.length_set]; omega) | (simp [Ent.cells, u8s]; done) | exact Nat.le_of_ble_eq_true rfl) (fun w hs => ?_) | refine WL.store1_3 ty3 rfl rfl (rfl) hs (by first | (simp; done) | omega | (simp only [List.length_append, List.length_replicate, List.length_cons, List.length_nil, List.length_set]; omega) | (simp [Ent.cells, u8s]; done) | exact Nat.le_of_ble_eq_true rfl) (fun w hs => ?_) | refine WL.store1_4 ty3 rfl rfl (rfl) hs (by first | (simp; done) | omega | (simp only [List.length_append, List.length_replicate, List.length_cons, List.length_nil, List.length_set]; omega) | (simp [Ent.cells, u8s]; done) | exact Nat.le_of_ble_eq_true rfl) (fun w hs => ?_) | refine WL.store1 ty3 rfl rfl (rfl) hs (by first | (simp; done) | omega | (simp only [List.length_append, List.length_replicate, List.length_cons, List.length_nil, List.length_set]; omega) | (simp [Ent.cells, u8s]; done) | exact Nat.le_of_ble_eq_true rfl) (fun w hs => ?_)
            refine WL.nil ?_
            rw [← hR] at hs
            replace hs := Step.dropX (A := [_]) (Step.dropX (A := [_]) hs)
            replace hs := (Step.dropX (A := [_, _]) hs).perm ((List.Perm.swap _ _ _).cons _)
            repeat (first | refine CW.seq ?_ | refine CW.block ?_ | refine CW.skip ?_ | refine CW.label ?_ | refine CW.exit ?_ | refine CW.condT rfl ?_ | refine CW.condF rfl ?_)
            refine (show ∃ m', _ ∧ _ from ⟨2 - (T + 1), by omega, T + 1, b0 :: bs, _, by omega, rfl, rfl, hs, rfl, rfl, rfl, rfl, rfl, trivial⟩)
        · refine ⟨hret, behind_some hs5 rfl rfl fun w hs => ?_⟩
          refine CWI.exit ?_
          repeat (first | refine CW.seq ?_ | refine CW.block ?_ | refine CW.skip ?_ | refine CW.label ?_ | refine CW.exit ?_ | refine CW.condT rfl ?_ | refine CW.condF rfl ?_)
          refine CW.reg ?_
          refine WL.val rfl (run_load1 ty3 rfl ((hs.inCell (hin hR8) rfl))) ?_
          refine WL.val rfl (run_bF (run_eql rfl rfl) (by omega)) ?_
          refine WL.val rfl (run_move) ?_
          first | (refine WL.yes rfl rfl rfl ?_; (first | refine WL.val rfl (run_load1 ty3 rfl (hs.c0 rfl)) ?_ | refine WL.val rfl (run_load1 ty3 rfl (hs.c1 rfl)) ?_ | refine WL.val rfl (run_load1 ty3 rfl (hs.c2 rfl)) ?_ | refine WL.val rfl (run_load1 ty3 rfl (hs.c3 rfl)) ?_ | refine WL.val rfl (run_load1 ty3 rfl (hs.c4 rfl)) ?_ | refine WL.val rfl (run_load1 ty3 rfl (hs.c5 rfl)) ?_ | refine WL.val rfl (run_load1 ty3 rfl (hs.c0 rfl)) ?_)) | refine WL.no rfl rfl rfl (.inl rfl) ?_ | refine WL.no rfl rfl rfl (.inr rfl) ?_
          first | (refine WL.yes rfl rfl rfl ?_; (first | refine WL.val rfl (run_load1 ty34 rfl (hs.c0 rfl)) ?_ | refine WL.val rfl (run_load1 ty34 rfl (hs.c1 rfl)) ?_ | refine WL.val rfl (run_load1 ty34 rfl (hs.c2 rfl)) ?_ | refine WL.val rfl (run_load1 ty34 rfl (hs.c3 rfl)) ?_ | refine WL.val rfl (run_load1 ty34 rfl (hs.c4 rfl)) ?_ | refine WL.val rfl (run_load1 ty34 rfl (hs.c5 rfl)) ?_ | refine WL.val rfl (run_load1 ty34 rfl (hs.c0 rfl)) ?_)) | refine WL.no rfl rfl rfl (.inl rfl) ?_ | refine WL.no rfl rfl rfl (.inr rfl) ?_
          first | (refine WL.yes rfl rfl rfl ?_; refine WL.val rfl (run_lenSl Tryd.underlying34 rfl) ?_) | refine WL.no rfl rfl rfl (.inl rfl) ?_ | refine WL.no rfl rfl rfl (.inr rfl) ?_
          first | (refine WL.yes rfl rfl rfl ?_; refine WL.val rfl (run_neq rfl rfl) ?_) | refine WL.no rfl rfl rfl (.inl rfl) ?_ | refine WL.no rfl rfl rfl (.inr rfl) ?_
          first | refine WL.val rfl (run_pickT rfl) ?_ | refine WL.val rfl (run_pickF rfl) ?_
          refine WL.nil ?_
          repeat (first | refine CW.seq ?_ | refine CW.block ?_ | refine CW.skip ?_ | refine CW.label ?_ | refine CW.exit ?_ | refine CW.condT rfl ?_ | refine CW.condF rfl ?_)
          refine CW.reg ?_
          refine WL.val rfl (run_load1 ty3 rfl ((hs.inCell (hin hR8) rfl))) ?_
          refine WL.nil ?_
          repeat (first | refine CW.seq ?_ | refine CW.block ?_ | refine CW.skip ?_ | refine CW.label ?_ | refine CW.exit ?_ | refine CW.condT rfl ?_ | refine CW.condF rfl ?_)
          refine CW.reg ?_
          refine WL.alloc ty3 rfl hs (fun b8 w hs => ?_)
          first | refine WL.store1 ty3 rfl rfl (rfl) hs (by first | (simp; done) | omega | (simp only [List.length_append, List.length_replicate, List.length_cons, List.length_nil, List.length_set]; omega) | (simp [Ent.cells, u8s]; done) | exact Nat.le_of_ble_eq_true rfl) (fun w hs => ?_) | refine WL.store1_1 ty3 rfl rfl (rfl) hs (by first | (simp; done) | omega | (simp only [List.length_append, List.length_replicate, List.length_cons, List.length_nil, List.length_set]; omega) | (simp [Ent.cells, u8s]; done) | exact Nat.le_of_ble_eq_true rfl) (fun w hs => ?_) | refine WL.store1_2 ty3 rfl rfl (rfl) hs (by first | (simp; done) | omega | (simp only [List.length_append, List.length_replicate, List.length_cons, List.length_nil, List.length_set]; omega) | (simp [Ent.cells, u8s]; done) | exact Nat.le_of_ble_eq_true rfl) (fun w hs => ?_) | refine WL.store1_3 ty3 rfl rfl (rfl) hs (by first | (simp; done) | omega | (simp only [List.length_append, List.length_replicate, List.length_cons, List.length_nil, List.length_set]; omega) | (simp [Ent.cells, u8s]; done) | exact Nat.le_of_ble_eq_true rfl) (fun w hs => ?_) | refine WL.store1_4 ty3 rfl rfl (rfl) hs (by first | (simp; done) | omega | (simp only [List.length_append, List.length_replicate, List.length_cons, List.length_nil, List.length_set]; omega) | (simp [Ent.cells, u8s]; done) | exact Nat.le_of_ble_eq_true rfl) (fun w hs => ?_) | refine WL.store1 ty3 rfl rfl (rfl) hs (by first | (simp; done) | omega | (simp only [List.length_append, List.length_replicate, List.length_cons, List.length_nil, List.length_set]; omega) | (simp [Ent.cells, u8s]; done) | exact Nat.le_of_ble_eq_true rfl) (fun w hs => ?_)
          refine WL.nil ?_
          repeat (first | refine CW.seq ?_ | refine CW.block ?_ | refine CW.skip ?_ | refine CW.label ?_ | refine CW.exit ?_ | refine CW.condT rfl ?_ | refine CW.condF rfl ?_)
          refine CW.reg ?_
          refine WL.val rfl (run_load1 ty3 rfl ((hs.c0 rfl))) ?_
          refine WL.val rfl (run_add (c := ((T + 1 : Nat) : Int)) rfl rfl (by omega) (by omega)) ?_
          first | refine WL.store1 ty3 rfl rfl (rfl) hs (by first | (simp; done) | omega | (simp only [List.length_append, List.length_replicate, List.length_cons, List.length_nil, List.length_set]; omega) | (simp [Ent.cells, u8s]; done) | exact Nat.le_of_ble_eq_true rfl) (fun w hs => ?_) | refine WL.store1_1 ty3 rfl rfl (rfl) hs (by first | (simp; done) | omega | (simp only [List.length_append, List.length_replicate, List.length_cons, List.length_nil, List.length_set]; omega) | (simp [Ent.cells, u8s]; done) | exact Nat.le_of_ble_eq_true rfl) (fun w hs => ?_) | refine WL.store1_2 ty3 rfl rfl (rfl) hs (by first | (simp; done) | omega | (simp only [List.length_append, List.length_replicate, List.length_cons, List.length_nil, List.length_set]; omega) | (simp [Ent.cells, u8s]; done) | exact Nat.le_of_ble_eq_true rfl) (fun w hs => ?_) | refine WL.store1_3 ty3 rfl rfl (rfl) hs (by first | (simp; done) | omega | (simp only [List.length_append, List.length_replicate, List.length_cons, List.length_nil, List.length_set]; omega) | (simp [Ent.cells, u8s]; done) | exact Nat.le_of_ble_eq_true rfl) (fun w hs => ?_) | refine WL.store1_4 ty3 rfl rfl (rfl) hs (by first | (simp; done) | omega | (simp only [List.length_append, List.length_replicate, List.length_cons, List.length_nil, List.length_set]; omega) | (simp [Ent.cells, u8s]; done) | exact Nat.le_of_ble_eq_true rfl) (fun w hs => ?_) | refine WL.store1 ty3 rfl rfl (rfl) hs (by first | (simp; done) | omega | (simp only [List.length_append, List.length_replicate, List.length_cons, List.length_nil, List.length_set]; omega) | (simp [Ent.cells, u8s]; done) | exact Nat.le_of_ble_eq_true rfl) (fun w hs => ?_)
          refine WL.nil ?_
          rw [← hR] at hs
          replace hs := Step.dropX (A := [_]) (Step.dropX (A := [_]) hs)
          replace hs := (Step.dropX (A := [_, _]) hs).perm ((List.Perm.swap _ _ _).cons _)
          repeat (first | refine CW.seq ?_ | refine CW.block ?_ | refine CW.skip ?_ | refine CW.label ?_ | refine CW.exit ?_ | refine CW.condT rfl ?_ | refine CW.condF rfl ?_)
          refine (show ∃ m', _ ∧ _ from ⟨2 - (T + 1), by omega, T + 1, b0 :: bs, _, by omega, rfl, rfl, hs, rfl, rfl, rfl, rfl, rfl, trivial⟩)
    · obtain rfl : T = 2 := by omega
      repeat (first | refine CW.seq ?_ | refine CW.block ?_ | refine CW.skip ?_ | refine CW.label ?_ | refine CW.exit ?_ | refine CW.condT rfl ?_ | refine CW.condF rfl ?_)
      refine CW.reg ?_
      refine WL.val rfl (run_load1 ty3 rfl ((hs.c0 rfl))) ?_
      refine WL.val rfl (run_bF (run_lss rfl rfl) (by omega)) ?_
      refine WL.nil ?_
      repeat (first | refine CW.seq ?_ | refine CW.block ?_ | refine CW.skip ?_ | refine CW.label ?_ | refine CW.exit ?_ | refine CW.condT rfl ?_ | refine CW.condF rfl ?_)
      refine CW.reg ?_
      first | refine WL.store1 ty4 rfl rfl (rfl) hs (by first | (simp; done) | omega | (simp only [List.length_append, List.length_replicate, List.length_cons, List.length_nil, List.length_set]; omega) | (simp [Ent.cells, u8s]; done) | exact Nat.le_of_ble_eq_true rfl) (fun w hs => ?_) | refine WL.store1_1 ty4 rfl rfl (rfl) hs (by first | (simp; done) | omega | (simp only [List.length_append, List.length_replicate, List.length_cons, List.length_nil, List.length_set]; omega) | (simp [Ent.cells, u8s]; done) | exact Nat.le_of_ble_eq_true rfl) (fun w hs => ?_) | refine WL.store1_2 ty4 rfl rfl (rfl) hs (by first | (simp; done) | omega | (simp only [List.length_append, List.length_replicate, List.length_cons, List.length_nil, List.length_set]; omega) | (simp [Ent.cells, u8s]; done) | exact Nat.le_of_ble_eq_true rfl) (fun w hs => ?_) | refine WL.store1_3 ty4 rfl rfl (rfl) hs (by first | (simp; done) | omega | (simp only [List.length_append, List.length_replicate, List.length_cons, List.length_nil, List.length_set]; omega) | (simp [Ent.cells, u8s]; done) | exact Nat.le_of_ble_eq_true rfl) (fun w hs => ?_) | refine WL.store1_4 ty4 rfl rfl (rfl) hs (by first | (simp; done) | omega | (simp only [List.length_append, List.length_replicate, List.length_cons, List.length_nil, List.length_set]; omega) | (simp [Ent.cells, u8s]; done) | exact Nat.le_of_ble_eq_true rfl) (fun w hs => ?_) | refine WL.store1 ty4 rfl rfl (rfl) hs (by first | (simp; done) | omega | (simp only [List.length_append, List.length_replicate, List.length_cons, List.length_nil, List.length_set]; omega) | (simp [Ent.cells, u8s]; done) | exact Nat.le_of_ble_eq_true rfl) (fun w hs => ?_)
      refine WL.nil ?_
      repeat (first | refine CW.seq ?_ | refine CW.block ?_ | refine CW.skip ?_ | refine CW.label ?_ | refine CW.exit ?_ | refine CW.condT rfl ?_ | refine CW.condF rfl ?_)
      refine CW.ret ?_
      have hpm : ((b8, blk 3 [.int .i64 (2 : Nat)]) :: (b4, blk 4 [.bool true]) :: (marksO bs ++ Fx)).Perm (marksO bs ++ ((b8, blk 3 [.int .i64 (2 : Nat)]) :: (b4, blk 4 [.bool true]) :: Fx)) :=
        (List.Perm.cons _ List.perm_middle.symm).trans List.perm_middle.symm
      replace hs : Step [] ((b8, blk 3 [.int .i64 (2 : Nat)]) :: (b4, blk 4 [.bool true]) :: (marksO bs ++ Fx)) w0 w := hs
      exact finM_ret (bs := bs) (.inl rfl) (hs.perm hpm) fun a ha w' hs' => ⟨_, res_cell1 ha rfl rfl (run_loadVar1 ty4 (hs'.inCell (List.mem_append_right _ (List.mem_cons_of_mem _ List.mem_cons_self)) rfl)), rfl, hs'.clear⟩
end Go.Gx
