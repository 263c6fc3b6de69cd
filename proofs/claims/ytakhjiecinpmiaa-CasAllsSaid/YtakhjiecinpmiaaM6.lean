/- The document's Store: Put. The document's Store: Evict, Twin. The laws' small functions: Same, round, head, fresh; nil compared. head, fresh: walked. fresh; a Store among a law's blocks. A row's arguments opened: numbers, truths, bytes. -/
import Derived.Test.YtakhjiecinpmiaaM5
import Derived.Test.YtakhjiecinpmiaaRows
import Derived.ProofKit
import Derived.OpenShut
import Derived.JoinedCond
import Derived.Deep.Slices
import Derived.Deep.Strs
import Derived.ChangeMaps5
import Derived.SliceStrings
/-! RS8 -/
namespace Go.Gx
open Go.Proofs
set_option linter.unusedVariables false
set_option linter.unusedSimpArgs false
set_option maxRecDepth 100000
attribute [local irreducible] shaL cutD frontL
section
variable {br : Nat} {s : AS} {D R : List (Nat × Obj)} {w0 : World} {d y : List UInt8} {v : Value} {n : Nat}
set_option maxHeartbeats 2000000 in
theorem rput_abs (hR : RRep br s D R) (ok : s.Ok) (hfew : s.Few n) (hn : n < 1099511627775) (hw : Lives (R ++ D) w0) (hy : Sl w0 1 v y.length (u8s y)) (hO : OutE v y (R.map (·.1))) (hsy : y.length < 1099511627776) :
    Calls Try.prog 65 #[.pointer (some ⟨br, 0, none⟩), v] w0 fun e w' => ∃ R' D', e = .returned (.tuple #[.agg (u8s (s.put y).1).toArray, .int .i64 ((s.put y).2.1 : Nat)]) ∧ RRep br (s.put y).2.2 (D' ++ D) R' ∧ Step (R.map (·.1)) (R' ++ D') w0 w' := by
  have hobt := hR.open ok hw
  obtain ⟨a, c, Lv, T, o⟩ := hobt
  have hs : Step (R.map (·.1)) ((br, blk 70 (rsC s.k s.cap s.last (.slice a s.X.length c) s.gets s.puts)) :: Lv) w0 w0 := by have h := hw.left; rw [← o.eqR]; exact h
  have hpu := hfew.puts
  have hk1 := ok.k1
  have huse := ok.used
  have hobt : ∃ s1, s1 = AS.mk s.k s.cap s.last s.gets (s.puts + 1) s.X := ⟨_, rfl⟩
  obtain ⟨s1, hs1⟩ := hobt
  have ok1 : s1.Ok := by rw [hs1]; exact ⟨ok.k1, ok.k2, ok.cap, ok.sorted, ok.len, ok.used⟩
  have few1 : s1.Few (n + 1) := by rw [hs1]; exact ⟨Nat.le_succ_of_le hfew.last, Nat.le_succ_of_le hfew.gets, Nat.succ_le_succ hfew.puts⟩
  have hP : RRep br s1 D ((br, blk 70 (rsC s.k s.cap s.last (.slice a s.X.length c) s.gets (s.puts + 1))) :: Lv) := by rw [hs1]; exact RRep.head o s.k s.cap s.last s.gets (s.puts + 1)
  have hobt : ∃ x, frontL y s.k = x := ⟨_, rfl⟩
  obtain ⟨dg, hdg⟩ := hobt
  have hd : dg.length = 32 := by rw [← hdg]; exact frontL_len ok.k2
  have hdl : (u8s dg).length = 32 := by rw [u8s, List.length_map, hd]
  have hof := fun {w} (h : Sl w 1 v y.length (u8s y)) => ofR_spec (k := s.k) w h hsy ok.k1 ok.k2
  rw [hdg] at hof
  have hlat : ∀ {w : World}, Step (R.map (·.1)) ((br, blk 70 (rsC s.k s.cap s.last (.slice a s.X.length c) s.gets (s.puts + 1))) :: Lv) w0 w → ROpen br s1 D ((br, blk 70 (rsC s.k s.cap s.last (.slice a s.X.length c) s.gets (s.puts + 1))) :: Lv) w a c Lv T := fun h => by rw [hs1]; exact o.later s.k s.cap s.last s.gets (s.puts + 1) h
  have hroom := fun {w a c Lv T R} (h : ROpen br s1 D R w a c Lv T) => room_spec (d := dg) (n := y.length) h ok1 hd hsy
  simp only [room_ins (y := y) ok1.sorted] at hroom
  have hpl := fun {w a c Lv T R} (h : ROpen br s1 D R w a c Lv T) => place_spec (d := dg) h ok1 hd
  have hlay := fun {w} (h : Lives (((br, blk 70 (rsC s.k s.cap s.last (.slice a s.X.length c) s.gets (s.puts + 1))) :: Lv) ++ D) w) (h2 : Sl w 1 v y.length (u8s y)) => rlay_abs (d := dg) hP ok1 few1 (by omega) h hd h2 (by have h3 := hO; rw [o.eqR] at h3; exact h3) hsy
  have hkept : ∀ {w : World}, Step (R.map (·.1)) ((br, blk 70 (rsC s.k s.cap s.last (.slice a s.X.length c) s.gets (s.puts + 1))) :: Lv) w0 w → Lives (((br, blk 70 (rsC s.k s.cap s.last (.slice a s.X.length c) s.gets (s.puts + 1))) :: Lv) ++ D) w := fun h => Lives.kept hw h
  have hobt := Sl.form hy
  obtain ⟨av, cv, rfl⟩ := hobt
  unfold AS.put
  rw [hdg]
  simp only
  by_cases hlong : 1048576 < y.length
  · rw [if_pos hlong]
    refine calls (n := 79) Try.func65 rfl rfl rfl ?_
    refine CW.seq ?_
    refine CW.reg ?_
    refine WL.alloc ty27 rfl hs (fun b4 w hs => ?_)
    refine WL.val rfl (run_assign) ?_
    refine WL.nil ?_
    refine CW.seq ?_
    refine CW.reg ?_
    refine WL.val rfl (run_move) ?_
    refine WL.val rfl (run_nilCheck rfl) ?_
    refine WL.val rfl (run_field (o' := 4) Try.underlying70 rfl ty66 rfl rfl rfl) ?_
    refine WL.val rfl (run_field (o' := 1) Try.underlying66 rfl ty3 rfl rfl rfl) ?_
    refine WL.val rfl (run_load1 ty3 rfl (hs.c1 (v := .int .i64 (s.puts : Nat)) rfl)) ?_
    refine WL.val rfl (run_add (c := ((s.puts + 1 : Nat) : Int)) rfl rfl (by omega) (by omega)) ?_
    refine WL.val rfl (run_nilCheck rfl) ?_
    refine WL.val rfl (run_field (o' := 4) Try.underlying70 rfl ty66 rfl rfl rfl) ?_
    refine WL.val rfl (run_field (o' := 1) Try.underlying66 rfl ty3 rfl rfl rfl) ?_
    refine WL.store1_1 ty3 rfl rfl (rfl) hs (by first | (simp; done) | omega | (simp only [List.length_append, List.length_replicate, List.length_cons, List.length_nil, List.length_set]; omega) | (simp [Ent.cells, u8s]; done) | exact Nat.le_of_ble_eq_true rfl) (fun w hs => ?_)
    refine WL.nil ?_
    replace hs : Step (R.map (·.1)) ((b4, blk 27 (u8s zD)) :: (br, blk 70 (rsC s.k s.cap s.last (.slice _ s.X.length c) s.gets (s.puts + 1))) :: Lv) w0 w := hs
    refine CW.seq <| CW.seq ?_
    refine CW.reg ?_
    refine WL.val rfl (run_move) ?_
    refine WL.val rfl (run_lenSl Try.underlying22 rfl) ?_
    refine WL.val rfl (run_bT (run_gtr rfl rfl) (by omega)) ?_
    refine WL.nil ?_
    refine CW.cond rfl (fun h => ?_) (fun h => ?_)
    · refine CW.seq ?_
      refine CW.reg ?_
      refine WL.val rfl (run_build rfl ((bld_dig _))) ?_
      refine WL.storeAll ty27 rfl rfl ((by rfl)) (Cells1.u8s _) hs (by first | rfl | assumption) (fun w hs => ?_)
      refine WL.val rfl (run_assign) ?_
      refine WL.nil ?_
      refine CW.ret ?_
      refine fin_cellTmp rfl rfl (run_loadVarN ty27 (by first | rfl | assumption | (simp; done)) hs.a0) ?_
      exact ⟨_, [], rfl, by rw [← hs1]; exact hP, by rw [List.append_nil]; exact Step.tail hs⟩
    · cases h
  · rw [if_neg hlong]
    unfold AS.has at hpl
    have hX1 : s1.X = s.X := by rw [hs1]
    have hl1 : s1.last = s.last := by rw [hs1]
    have hc1 : s1.cap = s.cap := by rw [hs1]
    rw [hX1] at hpl
    rw [hX1, hl1, hc1] at hroom
    have hlayE : AS.lay (AS.mk s.k s.cap s.last s.gets (s.puts + 1) s.X) dg y = if usedX (insX ⟨dg, y, s.last + 1⟩ s.X) ≤ s.cap then some { s1 with last := s1.last + 1, X := insX ⟨dg, y, s1.last + 1⟩ s1.X } else none := by
      rw [hX1, hl1, hs1]; rfl
    rw [hlayE]
    cases hf : findX dg s.X with
    | none =>
      rw [hf] at hpl
      simp only
      by_cases hc : usedX (insX ⟨dg, y, s.last + 1⟩ s.X) ≤ s.cap
      · simp only [decide_eq_true hc] at hroom
        rw [if_pos hc]
        simp only
        refine calls (n := 79) Try.func65 rfl rfl rfl ?_
        refine CW.seq ?_
        refine CW.reg ?_
        refine WL.alloc ty27 rfl hs (fun b4 w hs => ?_)
        refine WL.val rfl (run_assign) ?_
        refine WL.nil ?_
        refine CW.seq ?_
        refine CW.reg ?_
        refine WL.val rfl (run_move) ?_
        refine WL.val rfl (run_nilCheck rfl) ?_
        refine WL.val rfl (run_field (o' := 4) Try.underlying70 rfl ty66 rfl rfl rfl) ?_
        refine WL.val rfl (run_field (o' := 1) Try.underlying66 rfl ty3 rfl rfl rfl) ?_
        refine WL.val rfl (run_load1 ty3 rfl (hs.c1 (v := .int .i64 (s.puts : Nat)) rfl)) ?_
        refine WL.val rfl (run_add (c := ((s.puts + 1 : Nat) : Int)) rfl rfl (by omega) (by omega)) ?_
        refine WL.val rfl (run_nilCheck rfl) ?_
        refine WL.val rfl (run_field (o' := 4) Try.underlying70 rfl ty66 rfl rfl rfl) ?_
        refine WL.val rfl (run_field (o' := 1) Try.underlying66 rfl ty3 rfl rfl rfl) ?_
        refine WL.store1_1 ty3 rfl rfl (rfl) hs (by first | (simp; done) | omega | (simp only [List.length_append, List.length_replicate, List.length_cons, List.length_nil, List.length_set]; omega) | (simp [Ent.cells, u8s]; done) | exact Nat.le_of_ble_eq_true rfl) (fun w hs => ?_)
        refine WL.nil ?_
        replace hs : Step (R.map (·.1)) ((b4, blk 27 (u8s zD)) :: (br, blk 70 (rsC s.k s.cap s.last (.slice _ s.X.length c) s.gets (s.puts + 1))) :: Lv) w0 w := hs
        refine CW.seq <| CW.seq ?_
        refine CW.reg ?_
        refine WL.val rfl (run_move) ?_
        refine WL.val rfl (run_lenSl Try.underlying22 rfl) ?_
        refine WL.val rfl (run_bF (run_gtr rfl rfl) (by omega)) ?_
        refine WL.nil ?_
        refine CW.cond rfl (fun h => ?_) (fun h => ?_)
        · cases h
        repeat (first | refine CW.seq ?_ | refine CW.skip ?_)
        refine CW.reg ?_
        refine WL.val rfl (run_move) ?_
        refine WL.val rfl (run_nilCheck rfl) ?_
        refine WL.val rfl (run_field (o' := 0) Try.underlying70 rfl ty3 rfl rfl rfl) ?_
        refine WL.val rfl (run_load1 ty3 rfl (hs.c1 (v := .int .i64 (s.k : Nat)) rfl)) ?_
        refine WL.val rfl (run_move) ?_
        refine WL.enter rfl (run_call en13 rfl rfl) (hof (hy.stepE hs.tail hO)) ?_
        rintro e w ⟨rfl, hq⟩
        refine ⟨_, rfl, ?_⟩
        replace hs := hs.callE hq
        refine WL.alloc ty27 rfl hs (fun b6 w hs => ?_)
        refine WL.storeAll ty27 rfl rfl ((hdl)) (Cells1.u8s _) hs (by first | rfl | assumption) (fun w hs => ?_)
        refine WL.nil ?_
        refine CW.seq ?_
        refine CW.reg ?_
        refine WL.val rfl (run_move) ?_
        refine WL.val rfl (run_loadN ty27 rfl hdl hs.a0) ?_
        refine WL.enter rfl (run_call en80 rfl rfl) (hpl (hlat hs.tail.tail)) ?_
        rintro e w ⟨rfl, hq⟩
        refine ⟨_, rfl, ?_⟩
        replace hs := hs.callE hq
        refine WL.val rfl (run_move) ?_
        refine WL.val rfl (run_extract rfl rfl) ?_
        refine WL.val rfl (run_extract rfl rfl) ?_
        refine WL.val rfl (run_assign) ?_
        refine WL.val rfl (run_assign) ?_
        refine WL.nil ?_
        refine CW.seq <| CW.seq ?_
        refine CW.reg ?_
        refine WL.val rfl (run_move) ?_
        refine WL.val rfl (run_move) ?_
        refine WL.no rfl rfl rfl (.inl rfl) ?_
        refine WL.no rfl rfl rfl (.inl rfl) ?_
        refine WL.no rfl rfl rfl (.inl rfl) ?_
        refine WL.no rfl rfl rfl (.inl rfl) ?_
        refine WL.no rfl rfl rfl (.inl rfl) ?_
        refine WL.no rfl rfl rfl (.inl rfl) ?_
        refine WL.no rfl rfl rfl (.inl rfl) ?_
        refine WL.no rfl rfl rfl (.inl rfl) ?_
        refine WL.no rfl rfl rfl (.inl rfl) ?_
        refine WL.no rfl rfl rfl (.inl rfl) ?_
        refine WL.val rfl (run_pickF rfl) ?_
        refine WL.nil ?_
        refine CW.cond rfl (fun h => ?_) (fun h => ?_)
        · cases h
        repeat (first | refine CW.seq ?_ | refine CW.skip ?_)
        refine CW.quiet mixedP (by kernel_rfl) hs ?_
        refine QL.val rfl (fun w hs => run_move) ?_
        refine QL.val rfl (fun w hs => run_move) ?_
        refine QL.no rfl rfl rfl (.inl rfl) ?_
        refine QL.no rfl rfl rfl (.inl rfl) ?_
        refine QL.no rfl rfl rfl (.inl rfl) ?_
        refine QL.no rfl rfl rfl (.inl rfl) ?_
        refine QL.no rfl rfl rfl (.inl rfl) ?_
        refine QL.no rfl rfl rfl (.inl rfl) ?_
        refine QL.no rfl rfl rfl (.inl rfl) ?_
        refine QL.no rfl rfl rfl (.inl rfl) ?_
        refine QL.no rfl rfl rfl (.inl rfl) ?_
        refine QL.no rfl rfl rfl (.inl rfl) ?_
        refine QL.no rfl rfl rfl (.inl rfl) ?_
        refine QL.no rfl rfl rfl (.inl rfl) ?_
        refine QL.no rfl rfl rfl (.inl rfl) ?_
        refine QL.no rfl rfl rfl (.inl rfl) ?_
        refine QL.no rfl rfl rfl (.inl rfl) ?_
        refine QL.val rfl (fun w hs => run_pickF rfl) ?_
        refine QL.nil (fun w hs => ?_)
        refine CW.cond rfl (fun h => ?_) (fun h => ?_)
        · cases h
        repeat (first | refine CW.seq ?_ | refine CW.skip ?_)
        refine CW.reg ?_
        refine WL.val rfl (run_move) ?_
        refine WL.val rfl (run_loadN ty27 rfl hdl hs.a0) ?_
        refine WL.val rfl (run_move) ?_
        refine WL.val rfl (run_lenSl Try.underlying22 rfl) ?_
        refine WL.enter rfl (run_call en82 rfl rfl) (hroom (hlat hs.tail.tail)) ?_
        rintro e w ⟨rfl, hq⟩
        refine ⟨_, rfl, ?_⟩
        replace hs := hs.callE hq
        refine WL.val rfl (run_not rfl) ?_
        refine WL.nil ?_
        refine CW.cond rfl (fun h => ?_) (fun h => ?_)
        · cases h
        repeat (first | refine CW.seq ?_ | refine CW.skip ?_)
        refine CW.reg ?_
        refine WL.val rfl (run_move) ?_
        refine WL.val rfl (run_loadN ty27 rfl hdl hs.a0) ?_
        refine WL.val rfl (run_move) ?_
        refine WL.enter rfl (run_call en83 rfl rfl) (hlay (hkept hs.tail.tail) (hy.stepE hs.tail.tail hO)) ?_
        rintro e w ⟨R', D', rfl, hP', hq⟩
        refine ⟨_, rfl, ?_⟩
        replace hs := Step.append_comm (L2 := [_, _]) (Step.call (L1 := _ :: Lv) (L := [_, _]) (Step.append_comm (L1 := [_, _]) hs) hq)
        refine WL.nil ?_
        refine CW.seq ?_
        refine CW.reg ?_
        refine WL.val rfl (run_loadN ty27 rfl hdl hs.a0) ?_
        refine WL.storeAll ty27 rfl rfl (hdl) (Cells1.u8s _) (hs.swap) rfl (fun w hs => ?_)
        refine WL.val rfl (run_assign) ?_
        refine WL.nil ?_
        refine CW.ret ?_
        refine fin_cellTmp rfl rfl (run_loadVarN ty27 (by first | rfl | assumption | (simp; done)) hs.a0) ?_
        exact ⟨R', D', rfl, hP', Step.tail (Step.tail hs)⟩
      · simp only [decide_eq_false hc] at hroom
        rw [if_neg hc]
        simp only
        refine calls (n := 79) Try.func65 rfl rfl rfl ?_
        refine CW.seq ?_
        refine CW.reg ?_
        refine WL.alloc ty27 rfl hs (fun b4 w hs => ?_)
        refine WL.val rfl (run_assign) ?_
        refine WL.nil ?_
        refine CW.seq ?_
        refine CW.reg ?_
        refine WL.val rfl (run_move) ?_
        refine WL.val rfl (run_nilCheck rfl) ?_
        refine WL.val rfl (run_field (o' := 4) Try.underlying70 rfl ty66 rfl rfl rfl) ?_
        refine WL.val rfl (run_field (o' := 1) Try.underlying66 rfl ty3 rfl rfl rfl) ?_
        refine WL.val rfl (run_load1 ty3 rfl (hs.c1 (v := .int .i64 (s.puts : Nat)) rfl)) ?_
        refine WL.val rfl (run_add (c := ((s.puts + 1 : Nat) : Int)) rfl rfl (by omega) (by omega)) ?_
        refine WL.val rfl (run_nilCheck rfl) ?_
        refine WL.val rfl (run_field (o' := 4) Try.underlying70 rfl ty66 rfl rfl rfl) ?_
        refine WL.val rfl (run_field (o' := 1) Try.underlying66 rfl ty3 rfl rfl rfl) ?_
        refine WL.store1_1 ty3 rfl rfl (rfl) hs (by first | (simp; done) | omega | (simp only [List.length_append, List.length_replicate, List.length_cons, List.length_nil, List.length_set]; omega) | (simp [Ent.cells, u8s]; done) | exact Nat.le_of_ble_eq_true rfl) (fun w hs => ?_)
        refine WL.nil ?_
        replace hs : Step (R.map (·.1)) ((b4, blk 27 (u8s zD)) :: (br, blk 70 (rsC s.k s.cap s.last (.slice _ s.X.length c) s.gets (s.puts + 1))) :: Lv) w0 w := hs
        refine CW.seq <| CW.seq ?_
        refine CW.reg ?_
        refine WL.val rfl (run_move) ?_
        refine WL.val rfl (run_lenSl Try.underlying22 rfl) ?_
        refine WL.val rfl (run_bF (run_gtr rfl rfl) (by omega)) ?_
        refine WL.nil ?_
        refine CW.cond rfl (fun h => ?_) (fun h => ?_)
        · cases h
        repeat (first | refine CW.seq ?_ | refine CW.skip ?_)
        refine CW.reg ?_
        refine WL.val rfl (run_move) ?_
        refine WL.val rfl (run_nilCheck rfl) ?_
        refine WL.val rfl (run_field (o' := 0) Try.underlying70 rfl ty3 rfl rfl rfl) ?_
        refine WL.val rfl (run_load1 ty3 rfl (hs.c1 (v := .int .i64 (s.k : Nat)) rfl)) ?_
        refine WL.val rfl (run_move) ?_
        refine WL.enter rfl (run_call en13 rfl rfl) (hof (hy.stepE hs.tail hO)) ?_
        rintro e w ⟨rfl, hq⟩
        refine ⟨_, rfl, ?_⟩
        replace hs := hs.callE hq
        refine WL.alloc ty27 rfl hs (fun b6 w hs => ?_)
        refine WL.storeAll ty27 rfl rfl ((hdl)) (Cells1.u8s _) hs (by first | rfl | assumption) (fun w hs => ?_)
        refine WL.nil ?_
        refine CW.seq ?_
        refine CW.reg ?_
        refine WL.val rfl (run_move) ?_
        refine WL.val rfl (run_loadN ty27 rfl hdl hs.a0) ?_
        refine WL.enter rfl (run_call en80 rfl rfl) (hpl (hlat hs.tail.tail)) ?_
        rintro e w ⟨rfl, hq⟩
        refine ⟨_, rfl, ?_⟩
        replace hs := hs.callE hq
        refine WL.val rfl (run_move) ?_
        refine WL.val rfl (run_extract rfl rfl) ?_
        refine WL.val rfl (run_extract rfl rfl) ?_
        refine WL.val rfl (run_assign) ?_
        refine WL.val rfl (run_assign) ?_
        refine WL.nil ?_
        refine CW.seq <| CW.seq ?_
        refine CW.reg ?_
        refine WL.val rfl (run_move) ?_
        refine WL.val rfl (run_move) ?_
        refine WL.no rfl rfl rfl (.inl rfl) ?_
        refine WL.no rfl rfl rfl (.inl rfl) ?_
        refine WL.no rfl rfl rfl (.inl rfl) ?_
        refine WL.no rfl rfl rfl (.inl rfl) ?_
        refine WL.no rfl rfl rfl (.inl rfl) ?_
        refine WL.no rfl rfl rfl (.inl rfl) ?_
        refine WL.no rfl rfl rfl (.inl rfl) ?_
        refine WL.no rfl rfl rfl (.inl rfl) ?_
        refine WL.no rfl rfl rfl (.inl rfl) ?_
        refine WL.no rfl rfl rfl (.inl rfl) ?_
        refine WL.val rfl (run_pickF rfl) ?_
        refine WL.nil ?_
        refine CW.cond rfl (fun h => ?_) (fun h => ?_)
        · cases h
        repeat (first | refine CW.seq ?_ | refine CW.skip ?_)
        refine CW.quiet mixedP (by kernel_rfl) hs ?_
        refine QL.val rfl (fun w hs => run_move) ?_
        refine QL.val rfl (fun w hs => run_move) ?_
        refine QL.no rfl rfl rfl (.inl rfl) ?_
        refine QL.no rfl rfl rfl (.inl rfl) ?_
        refine QL.no rfl rfl rfl (.inl rfl) ?_
        refine QL.no rfl rfl rfl (.inl rfl) ?_
        refine QL.no rfl rfl rfl (.inl rfl) ?_
        refine QL.no rfl rfl rfl (.inl rfl) ?_
        refine QL.no rfl rfl rfl (.inl rfl) ?_
        refine QL.no rfl rfl rfl (.inl rfl) ?_
        refine QL.no rfl rfl rfl (.inl rfl) ?_
        refine QL.no rfl rfl rfl (.inl rfl) ?_
        refine QL.no rfl rfl rfl (.inl rfl) ?_
        refine QL.no rfl rfl rfl (.inl rfl) ?_
        refine QL.no rfl rfl rfl (.inl rfl) ?_
        refine QL.no rfl rfl rfl (.inl rfl) ?_
        refine QL.no rfl rfl rfl (.inl rfl) ?_
        refine QL.val rfl (fun w hs => run_pickF rfl) ?_
        refine QL.nil (fun w hs => ?_)
        refine CW.cond rfl (fun h => ?_) (fun h => ?_)
        · cases h
        repeat (first | refine CW.seq ?_ | refine CW.skip ?_)
        refine CW.reg ?_
        refine WL.val rfl (run_move) ?_
        refine WL.val rfl (run_loadN ty27 rfl hdl hs.a0) ?_
        refine WL.val rfl (run_move) ?_
        refine WL.val rfl (run_lenSl Try.underlying22 rfl) ?_
        refine WL.enter rfl (run_call en82 rfl rfl) (hroom (hlat hs.tail.tail)) ?_
        rintro e w ⟨rfl, hq⟩
        refine ⟨_, rfl, ?_⟩
        replace hs := hs.callE hq
        refine WL.val rfl (run_not rfl) ?_
        refine WL.nil ?_
        refine CW.cond rfl (fun h => ?_) (fun h => ?_)
        · refine CW.seq ?_
          refine CW.reg ?_
          refine WL.val rfl (run_build rfl ((bld_dig _))) ?_
          refine WL.storeAll ty27 rfl rfl ((by rfl)) (Cells1.u8s _) (hs.swap) rfl (fun w hs => ?_)
          refine WL.val rfl (run_assign) ?_
          refine WL.nil ?_
          refine CW.ret ?_
          refine fin_cellTmp rfl rfl (run_loadVarN ty27 (by first | rfl | assumption | (simp; done)) hs.a0) ?_
          exact ⟨_, [], rfl, by rw [← hs1]; exact hP, by rw [List.append_nil]; exact Step.tail (Step.tail hs)⟩
        · cases h
    | some b =>
      rw [hf] at hpl
      simp only
      have hobt := pos_some ok.sorted hf
      obtain ⟨hb, hbd⟩ := hobt
      have hlt := (List.getElem?_eq_some_iff.1 hb).1
      have hbl := ok.len b (List.mem_of_getElem? hb)
      have hbu := used_mem (List.mem_of_getElem? hb)
      have hobt := o.view.at hb
      obtain ⟨⟨td, tv, ts⟩, ht, h1, h2, hheld⟩ := hobt
      simp only at h1 h2 hheld
      subst h1 h2
      have hobt := o.row hb
      obtain ⟨bv, _, hae, _, _⟩ := hobt
      subst hae
      have hobt := hheld.form
      obtain ⟨va, vc, rfl⟩ := hobt
      have hfl : (frontL b.x s.k).length = 32 := frontL_len ok.k2
      have hcell : ∀ {w : World}, Step (R.map (·.1)) ((br, blk 70 (rsC s.k s.cap s.last (.slice (some ⟨bv, 0, none⟩) s.X.length c) s.gets (s.puts + 1))) :: Lv) w0 w → w.cell? ⟨bv, 0 + posX dg s.X * 34 + 32, none⟩ = some (.slice va b.x.length vc) := fun {w} h => by
        have o2 := hlat h
        rcases o2.rows with h5 | ⟨bv2, h5, h6⟩
        · rw [hX1] at h5; rw [h5] at hb; simp at hb
        · obtain rfl : bv = bv2 := by injection h5 with he; injection he
          exact (h6.rowT o2.len ht).cell (rbC_32 hbl)
      have hsl : ∀ {w : World}, Step (R.map (·.1)) ((br, blk 70 (rsC s.k s.cap s.last (.slice (some ⟨bv, 0, none⟩) s.X.length c) s.gets (s.puts + 1))) :: Lv) w0 w → Sl w 1 (.slice va b.x.length vc) b.x.length (u8s b.x) := fun {w} h => hheld.sl (hlat h).dat
      by_cases hxy : b.x = y
      · rw [if_pos hxy]
        simp only
        refine calls (n := 79) Try.func65 rfl rfl rfl ?_
        refine CW.seq ?_
        refine CW.reg ?_
        refine WL.alloc ty27 rfl hs (fun b4 w hs => ?_)
        refine WL.val rfl (run_assign) ?_
        refine WL.nil ?_
        refine CW.seq ?_
        refine CW.reg ?_
        refine WL.val rfl (run_move) ?_
        refine WL.val rfl (run_nilCheck rfl) ?_
        refine WL.val rfl (run_field (o' := 4) Try.underlying70 rfl ty66 rfl rfl rfl) ?_
        refine WL.val rfl (run_field (o' := 1) Try.underlying66 rfl ty3 rfl rfl rfl) ?_
        refine WL.val rfl (run_load1 ty3 rfl (hs.c1 (v := .int .i64 (s.puts : Nat)) rfl)) ?_
        refine WL.val rfl (run_add (c := ((s.puts + 1 : Nat) : Int)) rfl rfl (by omega) (by omega)) ?_
        refine WL.val rfl (run_nilCheck rfl) ?_
        refine WL.val rfl (run_field (o' := 4) Try.underlying70 rfl ty66 rfl rfl rfl) ?_
        refine WL.val rfl (run_field (o' := 1) Try.underlying66 rfl ty3 rfl rfl rfl) ?_
        refine WL.store1_1 ty3 rfl rfl (rfl) hs (by first | (simp; done) | omega | (simp only [List.length_append, List.length_replicate, List.length_cons, List.length_nil, List.length_set]; omega) | (simp [Ent.cells, u8s]; done) | exact Nat.le_of_ble_eq_true rfl) (fun w hs => ?_)
        refine WL.nil ?_
        replace hs : Step (R.map (·.1)) ((b4, blk 27 (u8s zD)) :: (br, blk 70 (rsC s.k s.cap s.last (.slice _ s.X.length c) s.gets (s.puts + 1))) :: Lv) w0 w := hs
        refine CW.seq <| CW.seq ?_
        refine CW.reg ?_
        refine WL.val rfl (run_move) ?_
        refine WL.val rfl (run_lenSl Try.underlying22 rfl) ?_
        refine WL.val rfl (run_bF (run_gtr rfl rfl) (by omega)) ?_
        refine WL.nil ?_
        refine CW.cond rfl (fun h => ?_) (fun h => ?_)
        · cases h
        repeat (first | refine CW.seq ?_ | refine CW.skip ?_)
        refine CW.reg ?_
        refine WL.val rfl (run_move) ?_
        refine WL.val rfl (run_nilCheck rfl) ?_
        refine WL.val rfl (run_field (o' := 0) Try.underlying70 rfl ty3 rfl rfl rfl) ?_
        refine WL.val rfl (run_load1 ty3 rfl (hs.c1 (v := .int .i64 (s.k : Nat)) rfl)) ?_
        refine WL.val rfl (run_move) ?_
        refine WL.enter rfl (run_call en13 rfl rfl) (hof (hy.stepE hs.tail hO)) ?_
        rintro e w ⟨rfl, hq⟩
        refine ⟨_, rfl, ?_⟩
        replace hs := hs.callE hq
        refine WL.alloc ty27 rfl hs (fun b6 w hs => ?_)
        refine WL.storeAll ty27 rfl rfl ((hdl)) (Cells1.u8s _) hs (by first | rfl | assumption) (fun w hs => ?_)
        refine WL.nil ?_
        refine CW.seq ?_
        refine CW.reg ?_
        refine WL.val rfl (run_move) ?_
        refine WL.val rfl (run_loadN ty27 rfl hdl hs.a0) ?_
        refine WL.enter rfl (run_call en80 rfl rfl) (hpl (hlat hs.tail.tail)) ?_
        rintro e w ⟨rfl, hq⟩
        refine ⟨_, rfl, ?_⟩
        replace hs := hs.callE hq
        refine WL.val rfl (run_move) ?_
        refine WL.val rfl (run_extract rfl rfl) ?_
        refine WL.val rfl (run_extract rfl rfl) ?_
        refine WL.val rfl (run_assign) ?_
        refine WL.val rfl (run_assign) ?_
        refine WL.nil ?_
        refine CW.seq <| CW.seq ?_
        refine CW.reg ?_
        refine WL.val rfl (run_move) ?_
        refine WL.val rfl (run_move) ?_
        refine WL.yes rfl rfl rfl ?_; refine WL.val rfl (run_move) ?_
        refine WL.yes rfl rfl rfl ?_; refine WL.val rfl (run_nilCheck rfl) ?_
        refine WL.yes rfl rfl rfl ?_; refine WL.val rfl (run_field (o' := 3) Try.underlying70 rfl ty68 rfl rfl rfl) ?_
        refine WL.yes rfl rfl rfl ?_
        refine WL.val rfl (run_load1 ty68 rfl ((Step.tail hs.tail).c0 (v := .slice (some ⟨bv, 0, none⟩) s.X.length c) rfl)) ?_
        refine WL.yes rfl rfl rfl ?_; refine WL.val rfl (run_move) ?_
        refine WL.yes rfl rfl rfl ?_; (first | refine WL.val rfl (run_ixSlN Try.underlying68 ty76 rfl rfl (by omega)) ?_ | refine WL.val rfl (run_ixSl Try.underlying68 ty76 rfl rfl (by omega)) ?_)
        refine WL.yes rfl rfl rfl ?_; refine WL.val rfl (run_field (o' := 32) Try.underlying76 rfl ty22 rfl rfl rfl) ?_
        refine WL.yes rfl rfl rfl ?_
        refine WL.val rfl (run_load1 ty22 rfl (hcell hs.tail.tail)) ?_
        refine WL.yes rfl rfl rfl ?_; refine WL.val rfl (run_move) ?_
        refine WL.yes rfl rfl rfl ?_
        refine WL.enter rfl (run_call en81 rfl rfl) (sameR_spec _ (hsl hs.tail.tail) (hy.stepE hs.tail.tail hO)) ?_
        rintro e w ⟨rfl, hq⟩
        refine ⟨_, rfl, ?_⟩
        replace hs := hs.callE hq
        refine WL.val rfl (run_pickT rfl) ?_
        refine WL.nil ?_
        refine CW.condP rfl (fun h => ?_) (fun h => ?_)
        · refine CW.seq ?_
          refine CW.reg ?_
          refine WL.val rfl (run_loadN ty27 rfl hdl hs.a0) ?_
          refine WL.storeAll ty27 rfl rfl (hdl) (Cells1.u8s _) (hs.swap) rfl (fun w hs => ?_)
          refine WL.val rfl (run_assign) ?_
          refine WL.nil ?_
          refine CW.ret ?_
          refine fin_cellTmp rfl rfl (run_loadVarN ty27 (by first | rfl | assumption | (simp; done)) hs.a0) ?_
          exact ⟨_, [], rfl, by rw [← hs1]; exact hP, by rw [List.append_nil]; exact Step.tail (Step.tail hs)⟩
        · exact absurd hxy h
      · rw [if_neg hxy]
        by_cases hcl : frontL b.x s.k = dg
        · rw [if_pos hcl]
          simp only
          refine calls (n := 79) Try.func65 rfl rfl rfl ?_
          refine CW.seq ?_
          refine CW.reg ?_
          refine WL.alloc ty27 rfl hs (fun b4 w hs => ?_)
          refine WL.val rfl (run_assign) ?_
          refine WL.nil ?_
          refine CW.seq ?_
          refine CW.reg ?_
          refine WL.val rfl (run_move) ?_
          refine WL.val rfl (run_nilCheck rfl) ?_
          refine WL.val rfl (run_field (o' := 4) Try.underlying70 rfl ty66 rfl rfl rfl) ?_
          refine WL.val rfl (run_field (o' := 1) Try.underlying66 rfl ty3 rfl rfl rfl) ?_
          refine WL.val rfl (run_load1 ty3 rfl (hs.c1 (v := .int .i64 (s.puts : Nat)) rfl)) ?_
          refine WL.val rfl (run_add (c := ((s.puts + 1 : Nat) : Int)) rfl rfl (by omega) (by omega)) ?_
          refine WL.val rfl (run_nilCheck rfl) ?_
          refine WL.val rfl (run_field (o' := 4) Try.underlying70 rfl ty66 rfl rfl rfl) ?_
          refine WL.val rfl (run_field (o' := 1) Try.underlying66 rfl ty3 rfl rfl rfl) ?_
          refine WL.store1_1 ty3 rfl rfl (rfl) hs (by first | (simp; done) | omega | (simp only [List.length_append, List.length_replicate, List.length_cons, List.length_nil, List.length_set]; omega) | (simp [Ent.cells, u8s]; done) | exact Nat.le_of_ble_eq_true rfl) (fun w hs => ?_)
          refine WL.nil ?_
          replace hs : Step (R.map (·.1)) ((b4, blk 27 (u8s zD)) :: (br, blk 70 (rsC s.k s.cap s.last (.slice _ s.X.length c) s.gets (s.puts + 1))) :: Lv) w0 w := hs
          refine CW.seq <| CW.seq ?_
          refine CW.reg ?_
          refine WL.val rfl (run_move) ?_
          refine WL.val rfl (run_lenSl Try.underlying22 rfl) ?_
          refine WL.val rfl (run_bF (run_gtr rfl rfl) (by omega)) ?_
          refine WL.nil ?_
          refine CW.cond rfl (fun h => ?_) (fun h => ?_)
          · cases h
          repeat (first | refine CW.seq ?_ | refine CW.skip ?_)
          refine CW.reg ?_
          refine WL.val rfl (run_move) ?_
          refine WL.val rfl (run_nilCheck rfl) ?_
          refine WL.val rfl (run_field (o' := 0) Try.underlying70 rfl ty3 rfl rfl rfl) ?_
          refine WL.val rfl (run_load1 ty3 rfl (hs.c1 (v := .int .i64 (s.k : Nat)) rfl)) ?_
          refine WL.val rfl (run_move) ?_
          refine WL.enter rfl (run_call en13 rfl rfl) (hof (hy.stepE hs.tail hO)) ?_
          rintro e w ⟨rfl, hq⟩
          refine ⟨_, rfl, ?_⟩
          replace hs := hs.callE hq
          refine WL.alloc ty27 rfl hs (fun b6 w hs => ?_)
          refine WL.storeAll ty27 rfl rfl ((hdl)) (Cells1.u8s _) hs (by first | rfl | assumption) (fun w hs => ?_)
          refine WL.nil ?_
          refine CW.seq ?_
          refine CW.reg ?_
          refine WL.val rfl (run_move) ?_
          refine WL.val rfl (run_loadN ty27 rfl hdl hs.a0) ?_
          refine WL.enter rfl (run_call en80 rfl rfl) (hpl (hlat hs.tail.tail)) ?_
          rintro e w ⟨rfl, hq⟩
          refine ⟨_, rfl, ?_⟩
          replace hs := hs.callE hq
          refine WL.val rfl (run_move) ?_
          refine WL.val rfl (run_extract rfl rfl) ?_
          refine WL.val rfl (run_extract rfl rfl) ?_
          refine WL.val rfl (run_assign) ?_
          refine WL.val rfl (run_assign) ?_
          refine WL.nil ?_
          refine CW.seq <| CW.seq ?_
          refine CW.reg ?_
          refine WL.val rfl (run_move) ?_
          refine WL.val rfl (run_move) ?_
          refine WL.yes rfl rfl rfl ?_; refine WL.val rfl (run_move) ?_
          refine WL.yes rfl rfl rfl ?_; refine WL.val rfl (run_nilCheck rfl) ?_
          refine WL.yes rfl rfl rfl ?_; refine WL.val rfl (run_field (o' := 3) Try.underlying70 rfl ty68 rfl rfl rfl) ?_
          refine WL.yes rfl rfl rfl ?_
          refine WL.val rfl (run_load1 ty68 rfl ((Step.tail hs.tail).c0 (v := .slice (some ⟨bv, 0, none⟩) s.X.length c) rfl)) ?_
          refine WL.yes rfl rfl rfl ?_; refine WL.val rfl (run_move) ?_
          refine WL.yes rfl rfl rfl ?_; (first | refine WL.val rfl (run_ixSlN Try.underlying68 ty76 rfl rfl (by omega)) ?_ | refine WL.val rfl (run_ixSl Try.underlying68 ty76 rfl rfl (by omega)) ?_)
          refine WL.yes rfl rfl rfl ?_; refine WL.val rfl (run_field (o' := 32) Try.underlying76 rfl ty22 rfl rfl rfl) ?_
          refine WL.yes rfl rfl rfl ?_
          refine WL.val rfl (run_load1 ty22 rfl (hcell hs.tail.tail)) ?_
          refine WL.yes rfl rfl rfl ?_; refine WL.val rfl (run_move) ?_
          refine WL.yes rfl rfl rfl ?_
          refine WL.enter rfl (run_call en81 rfl rfl) (sameR_spec _ (hsl hs.tail.tail) (hy.stepE hs.tail.tail hO)) ?_
          rintro e w ⟨rfl, hq⟩
          refine ⟨_, rfl, ?_⟩
          replace hs := hs.callE hq
          refine WL.val rfl (run_pickT rfl) ?_
          refine WL.nil ?_
          refine CW.condP rfl (fun h => ?_) (fun h => ?_)
          · exact absurd h hxy
          repeat (first | refine CW.seq ?_ | refine CW.skip ?_)
          refine CW.quiet mixedP (by kernel_rfl) hs ?_
          refine QL.val rfl (fun w hs => run_move) ?_
          refine QL.val rfl (fun w hs => run_move) ?_
          refine QL.yes rfl rfl rfl ?_; refine QL.val rfl (fun w hs => run_move) ?_
          refine QL.yes rfl rfl rfl ?_; refine QL.val rfl (fun w hs => run_nilCheck rfl) ?_
          refine QL.yes rfl rfl rfl ?_; refine QL.val rfl (fun w hs => run_field (o' := 0) Try.underlying70 rfl ty3 rfl rfl rfl) ?_
          refine QL.yes rfl rfl rfl ?_
          refine QL.val rfl (fun w hs => run_load1 ty3 rfl ((Step.tail hs.tail).c0 (v := .int .i64 (s.k : Nat)) rfl)) ?_
          refine QL.yes rfl rfl rfl ?_; refine QL.val rfl (fun w hs => run_move) ?_
          refine QL.yes rfl rfl rfl ?_; refine QL.val rfl (fun w hs => run_nilCheck rfl) ?_
          refine QL.yes rfl rfl rfl ?_; refine QL.val rfl (fun w hs => run_field (o' := 3) Try.underlying70 rfl ty68 rfl rfl rfl) ?_
          refine QL.yes rfl rfl rfl ?_
          refine QL.val rfl (fun w hs => run_load1 ty68 rfl ((Step.tail hs.tail).c0 (v := .slice (some ⟨bv, 0, none⟩) s.X.length c) rfl)) ?_
          refine QL.yes rfl rfl rfl ?_; refine QL.val rfl (fun w hs => run_move) ?_
          refine QL.yes rfl rfl rfl ?_; (first | refine QL.val rfl (fun w hs => run_ixSlN Try.underlying68 ty76 rfl rfl (by omega)) ?_ | refine QL.val rfl (fun w hs => run_ixSl Try.underlying68 ty76 rfl rfl (by omega)) ?_)
          refine QL.yes rfl rfl rfl ?_; refine QL.val rfl (fun w hs => run_field (o' := 32) Try.underlying76 rfl ty22 rfl rfl rfl) ?_
          refine QL.yes rfl rfl rfl ?_
          refine QL.val rfl (fun w hs => run_load1 ty22 rfl (hcell hs.tail.tail)) ?_
          refine QL.yes rfl rfl rfl ?_
          refine QL.enter rfl (fun w => run_call en13 rfl rfl) (fun w hs => ofR_spec (k := s.k) _ (hsl hs.tail.tail) (by omega) ok.k1 ok.k2) ?_
          refine QL.yes rfl rfl rfl ?_
          refine QL.val rfl (fun w hs => run_loadN ty27 rfl hdl hs.a0) ?_
          refine QL.yes rfl rfl rfl ?_
          refine QL.val rfl (fun w hs => run_eqDig hfl hd rfl rfl) ?_
          refine QL.val rfl (fun w hs => run_pickT rfl) ?_
          refine QL.nil (fun w hs => ?_)
          refine CW.condP rfl (fun h => ?_) (fun h => ?_)
          · refine CW.seq ?_
            refine CW.reg ?_
            refine WL.val rfl (run_build rfl ((bld_dig _))) ?_
            refine WL.storeAll ty27 rfl rfl ((by rfl)) (Cells1.u8s _) (hs.swap) rfl (fun w hs => ?_)
            refine WL.val rfl (run_assign) ?_
            refine WL.nil ?_
            refine CW.ret ?_
            refine fin_cellTmp rfl rfl (run_loadVarN ty27 (by first | rfl | assumption | (simp; done)) hs.a0) ?_
            exact ⟨_, [], rfl, by rw [← hs1]; exact hP, by rw [List.append_nil]; exact Step.tail (Step.tail hs)⟩
          · exact absurd hcl h
        · rw [if_neg hcl]
          by_cases hc : usedX (insX ⟨dg, y, s.last + 1⟩ s.X) ≤ s.cap
          · simp only [decide_eq_true hc] at hroom
            rw [if_pos hc]
            simp only
            refine calls (n := 79) Try.func65 rfl rfl rfl ?_
            refine CW.seq ?_
            refine CW.reg ?_
            refine WL.alloc ty27 rfl hs (fun b4 w hs => ?_)
            refine WL.val rfl (run_assign) ?_
            refine WL.nil ?_
            refine CW.seq ?_
            refine CW.reg ?_
            refine WL.val rfl (run_move) ?_
            refine WL.val rfl (run_nilCheck rfl) ?_
            refine WL.val rfl (run_field (o' := 4) Try.underlying70 rfl ty66 rfl rfl rfl) ?_
            refine WL.val rfl (run_field (o' := 1) Try.underlying66 rfl ty3 rfl rfl rfl) ?_
            refine WL.val rfl (run_load1 ty3 rfl (hs.c1 (v := .int .i64 (s.puts : Nat)) rfl)) ?_
            refine WL.val rfl (run_add (c := ((s.puts + 1 : Nat) : Int)) rfl rfl (by omega) (by omega)) ?_
            refine WL.val rfl (run_nilCheck rfl) ?_
            refine WL.val rfl (run_field (o' := 4) Try.underlying70 rfl ty66 rfl rfl rfl) ?_
            refine WL.val rfl (run_field (o' := 1) Try.underlying66 rfl ty3 rfl rfl rfl) ?_
            refine WL.store1_1 ty3 rfl rfl (rfl) hs (by first | (simp; done) | omega | (simp only [List.length_append, List.length_replicate, List.length_cons, List.length_nil, List.length_set]; omega) | (simp [Ent.cells, u8s]; done) | exact Nat.le_of_ble_eq_true rfl) (fun w hs => ?_)
            refine WL.nil ?_
            replace hs : Step (R.map (·.1)) ((b4, blk 27 (u8s zD)) :: (br, blk 70 (rsC s.k s.cap s.last (.slice _ s.X.length c) s.gets (s.puts + 1))) :: Lv) w0 w := hs
            refine CW.seq <| CW.seq ?_
            refine CW.reg ?_
            refine WL.val rfl (run_move) ?_
            refine WL.val rfl (run_lenSl Try.underlying22 rfl) ?_
            refine WL.val rfl (run_bF (run_gtr rfl rfl) (by omega)) ?_
            refine WL.nil ?_
            refine CW.cond rfl (fun h => ?_) (fun h => ?_)
            · cases h
            repeat (first | refine CW.seq ?_ | refine CW.skip ?_)
            refine CW.reg ?_
            refine WL.val rfl (run_move) ?_
            refine WL.val rfl (run_nilCheck rfl) ?_
            refine WL.val rfl (run_field (o' := 0) Try.underlying70 rfl ty3 rfl rfl rfl) ?_
            refine WL.val rfl (run_load1 ty3 rfl (hs.c1 (v := .int .i64 (s.k : Nat)) rfl)) ?_
            refine WL.val rfl (run_move) ?_
            refine WL.enter rfl (run_call en13 rfl rfl) (hof (hy.stepE hs.tail hO)) ?_
            rintro e w ⟨rfl, hq⟩
            refine ⟨_, rfl, ?_⟩
            replace hs := hs.callE hq
            refine WL.alloc ty27 rfl hs (fun b6 w hs => ?_)
            refine WL.storeAll ty27 rfl rfl ((hdl)) (Cells1.u8s _) hs (by first | rfl | assumption) (fun w hs => ?_)
            refine WL.nil ?_
            refine CW.seq ?_
            refine CW.reg ?_
            refine WL.val rfl (run_move) ?_
            refine WL.val rfl (run_loadN ty27 rfl hdl hs.a0) ?_
            refine WL.enter rfl (run_call en80 rfl rfl) (hpl (hlat hs.tail.tail)) ?_
            rintro e w ⟨rfl, hq⟩
            refine ⟨_, rfl, ?_⟩
            replace hs := hs.callE hq
            refine WL.val rfl (run_move) ?_
            refine WL.val rfl (run_extract rfl rfl) ?_
            refine WL.val rfl (run_extract rfl rfl) ?_
            refine WL.val rfl (run_assign) ?_
            refine WL.val rfl (run_assign) ?_
            refine WL.nil ?_
            refine CW.seq <| CW.seq ?_
            refine CW.reg ?_
            refine WL.val rfl (run_move) ?_
            refine WL.val rfl (run_move) ?_
            refine WL.yes rfl rfl rfl ?_; refine WL.val rfl (run_move) ?_
            refine WL.yes rfl rfl rfl ?_; refine WL.val rfl (run_nilCheck rfl) ?_
            refine WL.yes rfl rfl rfl ?_; refine WL.val rfl (run_field (o' := 3) Try.underlying70 rfl ty68 rfl rfl rfl) ?_
            refine WL.yes rfl rfl rfl ?_
            refine WL.val rfl (run_load1 ty68 rfl ((Step.tail hs.tail).c0 (v := .slice (some ⟨bv, 0, none⟩) s.X.length c) rfl)) ?_
            refine WL.yes rfl rfl rfl ?_; refine WL.val rfl (run_move) ?_
            refine WL.yes rfl rfl rfl ?_; (first | refine WL.val rfl (run_ixSlN Try.underlying68 ty76 rfl rfl (by omega)) ?_ | refine WL.val rfl (run_ixSl Try.underlying68 ty76 rfl rfl (by omega)) ?_)
            refine WL.yes rfl rfl rfl ?_; refine WL.val rfl (run_field (o' := 32) Try.underlying76 rfl ty22 rfl rfl rfl) ?_
            refine WL.yes rfl rfl rfl ?_
            refine WL.val rfl (run_load1 ty22 rfl (hcell hs.tail.tail)) ?_
            refine WL.yes rfl rfl rfl ?_; refine WL.val rfl (run_move) ?_
            refine WL.yes rfl rfl rfl ?_
            refine WL.enter rfl (run_call en81 rfl rfl) (sameR_spec _ (hsl hs.tail.tail) (hy.stepE hs.tail.tail hO)) ?_
            rintro e w ⟨rfl, hq⟩
            refine ⟨_, rfl, ?_⟩
            replace hs := hs.callE hq
            refine WL.val rfl (run_pickT rfl) ?_
            refine WL.nil ?_
            refine CW.condP rfl (fun h => ?_) (fun h => ?_)
            · exact absurd h hxy
            repeat (first | refine CW.seq ?_ | refine CW.skip ?_)
            refine CW.quiet mixedP (by kernel_rfl) hs ?_
            refine QL.val rfl (fun w hs => run_move) ?_
            refine QL.val rfl (fun w hs => run_move) ?_
            refine QL.yes rfl rfl rfl ?_; refine QL.val rfl (fun w hs => run_move) ?_
            refine QL.yes rfl rfl rfl ?_; refine QL.val rfl (fun w hs => run_nilCheck rfl) ?_
            refine QL.yes rfl rfl rfl ?_; refine QL.val rfl (fun w hs => run_field (o' := 0) Try.underlying70 rfl ty3 rfl rfl rfl) ?_
            refine QL.yes rfl rfl rfl ?_
            refine QL.val rfl (fun w hs => run_load1 ty3 rfl ((Step.tail hs.tail).c0 (v := .int .i64 (s.k : Nat)) rfl)) ?_
            refine QL.yes rfl rfl rfl ?_; refine QL.val rfl (fun w hs => run_move) ?_
            refine QL.yes rfl rfl rfl ?_; refine QL.val rfl (fun w hs => run_nilCheck rfl) ?_
            refine QL.yes rfl rfl rfl ?_; refine QL.val rfl (fun w hs => run_field (o' := 3) Try.underlying70 rfl ty68 rfl rfl rfl) ?_
            refine QL.yes rfl rfl rfl ?_
            refine QL.val rfl (fun w hs => run_load1 ty68 rfl ((Step.tail hs.tail).c0 (v := .slice (some ⟨bv, 0, none⟩) s.X.length c) rfl)) ?_
            refine QL.yes rfl rfl rfl ?_; refine QL.val rfl (fun w hs => run_move) ?_
            refine QL.yes rfl rfl rfl ?_; (first | refine QL.val rfl (fun w hs => run_ixSlN Try.underlying68 ty76 rfl rfl (by omega)) ?_ | refine QL.val rfl (fun w hs => run_ixSl Try.underlying68 ty76 rfl rfl (by omega)) ?_)
            refine QL.yes rfl rfl rfl ?_; refine QL.val rfl (fun w hs => run_field (o' := 32) Try.underlying76 rfl ty22 rfl rfl rfl) ?_
            refine QL.yes rfl rfl rfl ?_
            refine QL.val rfl (fun w hs => run_load1 ty22 rfl (hcell hs.tail.tail)) ?_
            refine QL.yes rfl rfl rfl ?_
            refine QL.enter rfl (fun w => run_call en13 rfl rfl) (fun w hs => ofR_spec (k := s.k) _ (hsl hs.tail.tail) (by omega) ok.k1 ok.k2) ?_
            refine QL.yes rfl rfl rfl ?_
            refine QL.val rfl (fun w hs => run_loadN ty27 rfl hdl hs.a0) ?_
            refine QL.yes rfl rfl rfl ?_
            refine QL.val rfl (fun w hs => run_eqDig hfl hd rfl rfl) ?_
            refine QL.val rfl (fun w hs => run_pickT rfl) ?_
            refine QL.nil (fun w hs => ?_)
            refine CW.condP rfl (fun h => ?_) (fun h => ?_)
            · exact absurd h hcl
            repeat (first | refine CW.seq ?_ | refine CW.skip ?_)
            refine CW.reg ?_
            refine WL.val rfl (run_move) ?_
            refine WL.val rfl (run_loadN ty27 rfl hdl hs.a0) ?_
            refine WL.val rfl (run_move) ?_
            refine WL.val rfl (run_lenSl Try.underlying22 rfl) ?_
            refine WL.enter rfl (run_call en82 rfl rfl) (hroom (hlat hs.tail.tail)) ?_
            rintro e w ⟨rfl, hq⟩
            refine ⟨_, rfl, ?_⟩
            replace hs := hs.callE hq
            refine WL.val rfl (run_not rfl) ?_
            refine WL.nil ?_
            refine CW.cond rfl (fun h => ?_) (fun h => ?_)
            · cases h
            repeat (first | refine CW.seq ?_ | refine CW.skip ?_)
            refine CW.reg ?_
            refine WL.val rfl (run_move) ?_
            refine WL.val rfl (run_loadN ty27 rfl hdl hs.a0) ?_
            refine WL.val rfl (run_move) ?_
            refine WL.enter rfl (run_call en83 rfl rfl) (hlay (hkept hs.tail.tail) (hy.stepE hs.tail.tail hO)) ?_
            rintro e w ⟨R', D', rfl, hP', hq⟩
            refine ⟨_, rfl, ?_⟩
            replace hs := Step.append_comm (L2 := [_, _]) (Step.call (L1 := _ :: Lv) (L := [_, _]) (Step.append_comm (L1 := [_, _]) hs) hq)
            refine WL.nil ?_
            refine CW.seq ?_
            refine CW.reg ?_
            refine WL.val rfl (run_loadN ty27 rfl hdl hs.a0) ?_
            refine WL.storeAll ty27 rfl rfl (hdl) (Cells1.u8s _) (hs.swap) rfl (fun w hs => ?_)
            refine WL.val rfl (run_assign) ?_
            refine WL.nil ?_
            refine CW.ret ?_
            refine fin_cellTmp rfl rfl (run_loadVarN ty27 (by first | rfl | assumption | (simp; done)) hs.a0) ?_
            exact ⟨R', D', rfl, hP', Step.tail (Step.tail hs)⟩
          · simp only [decide_eq_false hc] at hroom
            rw [if_neg hc]
            simp only
            refine calls (n := 79) Try.func65 rfl rfl rfl ?_
            refine CW.seq ?_
            refine CW.reg ?_
            refine WL.alloc ty27 rfl hs (fun b4 w hs => ?_)
            refine WL.val rfl (run_assign) ?_
            refine WL.nil ?_
            refine CW.seq ?_
            refine CW.reg ?_
            refine WL.val rfl (run_move) ?_
            refine WL.val rfl (run_nilCheck rfl) ?_
            refine WL.val rfl (run_field (o' := 4) Try.underlying70 rfl ty66 rfl rfl rfl) ?_
            refine WL.val rfl (run_field (o' := 1) Try.underlying66 rfl ty3 rfl rfl rfl) ?_
            refine WL.val rfl (run_load1 ty3 rfl (hs.c1 (v := .int .i64 (s.puts : Nat)) rfl)) ?_
            refine WL.val rfl (run_add (c := ((s.puts + 1 : Nat) : Int)) rfl rfl (by omega) (by omega)) ?_
            refine WL.val rfl (run_nilCheck rfl) ?_
            refine WL.val rfl (run_field (o' := 4) Try.underlying70 rfl ty66 rfl rfl rfl) ?_
            refine WL.val rfl (run_field (o' := 1) Try.underlying66 rfl ty3 rfl rfl rfl) ?_
            refine WL.store1_1 ty3 rfl rfl (rfl) hs (by first | (simp; done) | omega | (simp only [List.length_append, List.length_replicate, List.length_cons, List.length_nil, List.length_set]; omega) | (simp [Ent.cells, u8s]; done) | exact Nat.le_of_ble_eq_true rfl) (fun w hs => ?_)
            refine WL.nil ?_
            replace hs : Step (R.map (·.1)) ((b4, blk 27 (u8s zD)) :: (br, blk 70 (rsC s.k s.cap s.last (.slice _ s.X.length c) s.gets (s.puts + 1))) :: Lv) w0 w := hs
            refine CW.seq <| CW.seq ?_
            refine CW.reg ?_
            refine WL.val rfl (run_move) ?_
            refine WL.val rfl (run_lenSl Try.underlying22 rfl) ?_
            refine WL.val rfl (run_bF (run_gtr rfl rfl) (by omega)) ?_
            refine WL.nil ?_
            refine CW.cond rfl (fun h => ?_) (fun h => ?_)
            · cases h
            repeat (first | refine CW.seq ?_ | refine CW.skip ?_)
            refine CW.reg ?_
            refine WL.val rfl (run_move) ?_
            refine WL.val rfl (run_nilCheck rfl) ?_
            refine WL.val rfl (run_field (o' := 0) Try.underlying70 rfl ty3 rfl rfl rfl) ?_
            refine WL.val rfl (run_load1 ty3 rfl (hs.c1 (v := .int .i64 (s.k : Nat)) rfl)) ?_
            refine WL.val rfl (run_move) ?_
            refine WL.enter rfl (run_call en13 rfl rfl) (hof (hy.stepE hs.tail hO)) ?_
            rintro e w ⟨rfl, hq⟩
            refine ⟨_, rfl, ?_⟩
            replace hs := hs.callE hq
            refine WL.alloc ty27 rfl hs (fun b6 w hs => ?_)
            refine WL.storeAll ty27 rfl rfl ((hdl)) (Cells1.u8s _) hs (by first | rfl | assumption) (fun w hs => ?_)
            refine WL.nil ?_
            refine CW.seq ?_
            refine CW.reg ?_
            refine WL.val rfl (run_move) ?_
            refine WL.val rfl (run_loadN ty27 rfl hdl hs.a0) ?_
            refine WL.enter rfl (run_call en80 rfl rfl) (hpl (hlat hs.tail.tail)) ?_
            rintro e w ⟨rfl, hq⟩
            refine ⟨_, rfl, ?_⟩
            replace hs := hs.callE hq
            refine WL.val rfl (run_move) ?_
            refine WL.val rfl (run_extract rfl rfl) ?_
            refine WL.val rfl (run_extract rfl rfl) ?_
            refine WL.val rfl (run_assign) ?_
            refine WL.val rfl (run_assign) ?_
            refine WL.nil ?_
            refine CW.seq <| CW.seq ?_
            refine CW.reg ?_
            refine WL.val rfl (run_move) ?_
            refine WL.val rfl (run_move) ?_
            refine WL.yes rfl rfl rfl ?_; refine WL.val rfl (run_move) ?_
            refine WL.yes rfl rfl rfl ?_; refine WL.val rfl (run_nilCheck rfl) ?_
            refine WL.yes rfl rfl rfl ?_; refine WL.val rfl (run_field (o' := 3) Try.underlying70 rfl ty68 rfl rfl rfl) ?_
            refine WL.yes rfl rfl rfl ?_
            refine WL.val rfl (run_load1 ty68 rfl ((Step.tail hs.tail).c0 (v := .slice (some ⟨bv, 0, none⟩) s.X.length c) rfl)) ?_
            refine WL.yes rfl rfl rfl ?_; refine WL.val rfl (run_move) ?_
            refine WL.yes rfl rfl rfl ?_; (first | refine WL.val rfl (run_ixSlN Try.underlying68 ty76 rfl rfl (by omega)) ?_ | refine WL.val rfl (run_ixSl Try.underlying68 ty76 rfl rfl (by omega)) ?_)
            refine WL.yes rfl rfl rfl ?_; refine WL.val rfl (run_field (o' := 32) Try.underlying76 rfl ty22 rfl rfl rfl) ?_
            refine WL.yes rfl rfl rfl ?_
            refine WL.val rfl (run_load1 ty22 rfl (hcell hs.tail.tail)) ?_
            refine WL.yes rfl rfl rfl ?_; refine WL.val rfl (run_move) ?_
            refine WL.yes rfl rfl rfl ?_
            refine WL.enter rfl (run_call en81 rfl rfl) (sameR_spec _ (hsl hs.tail.tail) (hy.stepE hs.tail.tail hO)) ?_
            rintro e w ⟨rfl, hq⟩
            refine ⟨_, rfl, ?_⟩
            replace hs := hs.callE hq
            refine WL.val rfl (run_pickT rfl) ?_
            refine WL.nil ?_
            refine CW.condP rfl (fun h => ?_) (fun h => ?_)
            · exact absurd h hxy
            repeat (first | refine CW.seq ?_ | refine CW.skip ?_)
            refine CW.quiet mixedP (by kernel_rfl) hs ?_
            refine QL.val rfl (fun w hs => run_move) ?_
            refine QL.val rfl (fun w hs => run_move) ?_
            refine QL.yes rfl rfl rfl ?_; refine QL.val rfl (fun w hs => run_move) ?_
            refine QL.yes rfl rfl rfl ?_; refine QL.val rfl (fun w hs => run_nilCheck rfl) ?_
            refine QL.yes rfl rfl rfl ?_; refine QL.val rfl (fun w hs => run_field (o' := 0) Try.underlying70 rfl ty3 rfl rfl rfl) ?_
            refine QL.yes rfl rfl rfl ?_
            refine QL.val rfl (fun w hs => run_load1 ty3 rfl ((Step.tail hs.tail).c0 (v := .int .i64 (s.k : Nat)) rfl)) ?_
            refine QL.yes rfl rfl rfl ?_; refine QL.val rfl (fun w hs => run_move) ?_
            refine QL.yes rfl rfl rfl ?_; refine QL.val rfl (fun w hs => run_nilCheck rfl) ?_
            refine QL.yes rfl rfl rfl ?_; refine QL.val rfl (fun w hs => run_field (o' := 3) Try.underlying70 rfl ty68 rfl rfl rfl) ?_
            refine QL.yes rfl rfl rfl ?_
            refine QL.val rfl (fun w hs => run_load1 ty68 rfl ((Step.tail hs.tail).c0 (v := .slice (some ⟨bv, 0, none⟩) s.X.length c) rfl)) ?_
            refine QL.yes rfl rfl rfl ?_; refine QL.val rfl (fun w hs => run_move) ?_
            refine QL.yes rfl rfl rfl ?_; (first | refine QL.val rfl (fun w hs => run_ixSlN Try.underlying68 ty76 rfl rfl (by omega)) ?_ | refine QL.val rfl (fun w hs => run_ixSl Try.underlying68 ty76 rfl rfl (by omega)) ?_)
            refine QL.yes rfl rfl rfl ?_; refine QL.val rfl (fun w hs => run_field (o' := 32) Try.underlying76 rfl ty22 rfl rfl rfl) ?_
            refine QL.yes rfl rfl rfl ?_
            refine QL.val rfl (fun w hs => run_load1 ty22 rfl (hcell hs.tail.tail)) ?_
            refine QL.yes rfl rfl rfl ?_
            refine QL.enter rfl (fun w => run_call en13 rfl rfl) (fun w hs => ofR_spec (k := s.k) _ (hsl hs.tail.tail) (by omega) ok.k1 ok.k2) ?_
            refine QL.yes rfl rfl rfl ?_
            refine QL.val rfl (fun w hs => run_loadN ty27 rfl hdl hs.a0) ?_
            refine QL.yes rfl rfl rfl ?_
            refine QL.val rfl (fun w hs => run_eqDig hfl hd rfl rfl) ?_
            refine QL.val rfl (fun w hs => run_pickT rfl) ?_
            refine QL.nil (fun w hs => ?_)
            refine CW.condP rfl (fun h => ?_) (fun h => ?_)
            · exact absurd h hcl
            repeat (first | refine CW.seq ?_ | refine CW.skip ?_)
            refine CW.reg ?_
            refine WL.val rfl (run_move) ?_
            refine WL.val rfl (run_loadN ty27 rfl hdl hs.a0) ?_
            refine WL.val rfl (run_move) ?_
            refine WL.val rfl (run_lenSl Try.underlying22 rfl) ?_
            refine WL.enter rfl (run_call en82 rfl rfl) (hroom (hlat hs.tail.tail)) ?_
            rintro e w ⟨rfl, hq⟩
            refine ⟨_, rfl, ?_⟩
            replace hs := hs.callE hq
            refine WL.val rfl (run_not rfl) ?_
            refine WL.nil ?_
            refine CW.cond rfl (fun h => ?_) (fun h => ?_)
            · refine CW.seq ?_
              refine CW.reg ?_
              refine WL.val rfl (run_build rfl ((bld_dig _))) ?_
              refine WL.storeAll ty27 rfl rfl ((by rfl)) (Cells1.u8s _) (hs.swap) rfl (fun w hs => ?_)
              refine WL.val rfl (run_assign) ?_
              refine WL.nil ?_
              refine CW.ret ?_
              refine fin_cellTmp rfl rfl (run_loadVarN ty27 (by first | rfl | assumption | (simp; done)) hs.a0) ?_
              exact ⟨_, [], rfl, by rw [← hs1]; exact hP, by rw [List.append_nil]; exact Step.tail (Step.tail hs)⟩
            · cases h
end
end Go.Gx
/-! RS9 -/
namespace Go.Gx
open Go.Proofs
set_option linter.unusedVariables false
set_option linter.unusedSimpArgs false
set_option maxRecDepth 100000
attribute [local irreducible] shaL cutD frontL
section
variable {br : Nat} {s : AS} {D R : List (Nat × Obj)} {w0 : World} {d y : List UInt8} {v : Value} {n : Nat}
set_option maxHeartbeats 2000000 in
theorem revict_abs (hR : RRep br s D R) (ok : s.Ok) (hw : Lives (R ++ D) w0) (hd : d.length = 32) :
    Calls Try.prog 72 #[.pointer (some ⟨br, 0, none⟩), .agg (u8s d).toArray] w0 fun e w' => ∃ R', e = .returned (.bool (s.has d)) ∧ RRep br (s.evict d) D R' ∧ Step (R.map (·.1)) R' w0 w' := by
  have hobt := hR.open ok hw
  obtain ⟨a, c, Lv, T, o⟩ := hobt
  have hs : Step (R.map (·.1)) ((br, blk 70 (rsC s.k s.cap s.last (.slice a s.X.length c) s.gets s.puts)) :: Lv) w0 w0 := by have h := hw.left; rw [← o.eqR]; exact h
  have hdl : (u8s d).length = 32 := by rw [u8s, List.length_map, hd]
  have hXl := used_len s.X
  have huse := ok.used
  have hTl := o.view.length
  have hP := RRep.head o s.k s.cap s.last s.gets s.puts
  have hobt : ∃ S, R.map (·.1) = S := ⟨_, rfl⟩
  obtain ⟨S, hSe⟩ := hobt
  have hlat : ∀ {w : World}, Step S ((br, blk 70 (rsC s.k s.cap s.last (.slice a s.X.length c) s.gets s.puts)) :: Lv) w0 w → ROpen br s D ((br, blk 70 (rsC s.k s.cap s.last (.slice a s.X.length c) s.gets s.puts)) :: Lv) w a c Lv T := fun h => o.later s.k s.cap s.last s.gets s.puts (by rw [hSe]; exact h)
  have hpl := fun {w a c Lv T R} (h : ROpen br s D R w a c Lv T) => place_spec (d := d) h ok hd
  simp only [hSe] at hs ⊢
  unfold AS.has at hpl ⊢
  unfold AS.evict
  cases hf : findX d s.X with
  | none =>
    rw [hf] at hpl
    rw [delX_none hf]
    refine calls (n := 36) Try.func72 rfl rfl rfl ?_
    refine CW.seq ?_
    refine CW.reg ?_
    refine WL.box (cs := u8s d) rfl rfl rfl hs (fun b3 w hs => ?_)
    refine WL.val rfl (run_assign) ?_
    refine WL.nil ?_
    refine CW.seq ?_
    refine CW.reg ?_
    refine WL.val rfl (run_move) ?_
    refine WL.val rfl (run_loadN ty27 rfl hdl hs.a0) ?_
    refine WL.enter rfl (run_call en80 rfl rfl) (hpl (hlat hs.tail)) ?_
    rintro e w ⟨rfl, hq⟩
    refine ⟨_, rfl, ?_⟩
    replace hs := hs.callE hq
    refine WL.val rfl (run_move) ?_
    refine WL.val rfl (run_extract rfl rfl) ?_
    refine WL.val rfl (run_extract rfl rfl) ?_
    refine WL.val rfl (run_assign) ?_
    refine WL.val rfl (run_assign) ?_
    refine WL.nil ?_
    refine CW.seq <| CW.seq ?_
    refine CW.reg ?_
    refine WL.val rfl (run_move) ?_
    refine WL.nil ?_
    refine CW.cond rfl (fun h => ?_) (fun h => ?_)
    · cases h
    repeat (first | refine CW.seq ?_ | refine CW.skip ?_)
    refine CW.reg ?_
    refine WL.val rfl (run_move) ?_
    refine WL.val rfl (run_assign) ?_
    refine WL.nil ?_
    refine CW.ret ?_
    refine fin_ret1 rfl ?_
    exact ⟨_, rfl, hP, hs.tail⟩
  | some b =>
    rw [hf] at hpl
    have hobt := pos_some ok.sorted hf
    obtain ⟨hb, hbd⟩ := hobt
    have hlt := (List.getElem?_eq_some_iff.1 hb).1
    have e := del_pos (d := d) ok.sorted (by rw [hf]; rfl)
    have hca : Cells1 (rowsT ((T.take (posX d s.X)).drop 0)) := rowsT_cells1 fun t ht => o.view.one t (List.mem_of_mem_take (List.mem_of_mem_drop ht))
    have hcb : Cells1 (rowsT ((T.take s.X.length).drop (posX d s.X + 1))) := rowsT_cells1 fun t ht => o.view.one t (List.mem_of_mem_take (List.mem_of_mem_drop ht))
    refine calls (n := 36) Try.func72 rfl rfl rfl ?_
    refine CW.seq ?_
    refine CW.reg ?_
    refine WL.box (cs := u8s d) rfl rfl rfl hs (fun b3 w hs => ?_)
    refine WL.val rfl (run_assign) ?_
    refine WL.nil ?_
    refine CW.seq ?_
    refine CW.reg ?_
    refine WL.val rfl (run_move) ?_
    refine WL.val rfl (run_loadN ty27 rfl hdl hs.a0) ?_
    refine WL.enter rfl (run_call en80 rfl rfl) (hpl (hlat hs.tail)) ?_
    rintro e w ⟨rfl, hq⟩
    refine ⟨_, rfl, ?_⟩
    replace hs := hs.callE hq
    refine WL.val rfl (run_move) ?_
    refine WL.val rfl (run_extract rfl rfl) ?_
    refine WL.val rfl (run_extract rfl rfl) ?_
    refine WL.val rfl (run_assign) ?_
    refine WL.val rfl (run_assign) ?_
    refine WL.nil ?_
    refine CW.seq <| CW.seq ?_
    refine CW.reg ?_
    refine WL.val rfl (run_move) ?_
    refine WL.nil ?_
    refine CW.cond rfl (fun h => ?_) (fun h => ?_)
    · refine CW.seq ?_
      refine CW.reg ?_
      refine WL.val rfl (run_assign) ?_
      refine WL.nil ?_
      refine CW.seq ?_
      refine CW.reg ?_
      refine WL.val rfl (run_move) ?_
      refine WL.val rfl (run_move) ?_
      refine WL.val rfl (run_nilCheck rfl) ?_
      refine WL.val rfl (run_field (o' := 3) Try.underlying70 rfl ty68 rfl rfl rfl) ?_
      refine WL.val rfl (run_load1 ty68 rfl (hs.c1 (v := .slice a s.X.length c) rfl)) ?_
      refine WL.val rfl (run_move) ?_
      refine WL.val rfl (run_cut (lo := 0) (hi := posX d s.X) (hlat hs.tail) rfl rfl rfl (Nat.zero_le _) (by omega)) ?_
      refine WL.append Try.underlying68 Try.underlying68 ty76 rfl (by decide) rfl rfl (OwnSl.nil _ _) (hs) (cut_sl (hlat hs.tail) (Nat.zero_le _) (by omega)) (hca) (by first | omega | (simp only [List.length_append, List.length_cons, List.length_nil]; omega)) rfl (fun v22 Lv22 w hv22 hs => ?_)
      refine WL.val rfl (run_assign) ?_
      refine WL.nil ?_
      have hobt := hv22.form
      obtain ⟨va, vc, rfl⟩ := hobt
      have ho3 : ROpen br s D _ w a c Lv T := hlat (Step.tail (Step.dropL (L1 := Lv22) hs))
      refine CW.reg ?_
      refine WL.val rfl (run_move) ?_
      refine WL.val rfl (run_move) ?_
      refine WL.val rfl (run_move) ?_
      refine WL.val rfl (run_nilCheck rfl) ?_
      refine WL.val rfl (run_field (o' := 3) Try.underlying70 rfl ty68 rfl rfl rfl) ?_
      refine WL.val rfl (run_load1 ty68 rfl ((Step.tail (Step.dropL (L1 := Lv22) hs)).c0 (v := .slice a s.X.length c) rfl)) ?_
      refine WL.val rfl (run_move) ?_
      refine WL.val rfl (run_add (c := ((posX d s.X + 1 : Nat) : Int)) rfl rfl (by omega) (by omega)) ?_
      refine WL.val rfl (run_cut (lo := posX d s.X + 1) (hi := s.X.length) ho3 rfl rfl rfl (by omega) (Nat.le_refl _)) ?_
      refine WL.append Try.underlying68 Try.underlying68 ty76 rfl (by decide) rfl rfl (hv22) (hs) (cut_sl ho3 (by omega) (Nat.le_refl _)) (hcb) (by first | omega | (simp only [List.length_append, List.length_cons, List.length_nil]; omega)) rfl (fun v32 Lv32 w hv32 hs => ?_)
      replace hs := Step.front [_] (Step.append_comm (L1 := Lv32) hs)
      refine WL.val rfl (run_nilCheck rfl) ?_
      refine WL.val rfl (run_field (o' := 3) Try.underlying70 rfl ty68 rfl rfl rfl) ?_
      refine WL.store1 ty68 rfl rfl (hv32.one) (hs) (by first | (simp; done) | omega | (simp only [List.length_append, List.length_replicate, List.length_cons, List.length_nil, List.length_set]; omega) | (simp [Ent.cells, u8s]; done) | exact Nat.le_of_ble_eq_true rfl) (fun w hs => ?_)
      refine WL.nil ?_
      refine CW.seq ?_
      refine CW.reg ?_
      refine WL.val rfl (run_move) ?_
      refine WL.val rfl (run_assign) ?_
      refine WL.nil ?_
      refine CW.ret ?_
      refine fin_ret1 rfl ?_
      have hcnt : 0 + (posX d s.X - 0) + (s.X.length - (posX d s.X + 1)) = (delX d s.X).length := by
        rw [e, List.length_append, List.length_take, List.length_drop, Nat.min_eq_left (by omega)]; omega
      have hrows : [] ++ rowsT ((T.take (posX d s.X)).drop 0) ++ rowsT ((T.take s.X.length).drop (posX d s.X + 1)) = rowsT (T.take (posX d s.X) ++ T.drop (posX d s.X + 1)) := by
        rw [List.drop_zero, ← hTl, List.take_length, List.nil_append, rowsT_append]
      rw [hcnt, hrows] at hv32
      have hs2 : Step S ((br, blk 70 (rsC s.k s.cap s.last v32 s.gets s.puts)) :: _ :: (Lv ++ Lv32)) w0 w := hs
      have hs3 := Step.tail (Step.append_comm (L1 := [_]) (L2 := _ :: (Lv ++ Lv32)) hs2)
      have hs4 := Step.dropL (L1 := Lv) (Step.perm hs3 (List.Perm.of_eq (List.append_assoc Lv Lv32 [_])))
      refine ⟨_, rfl, ⟨v32, Lv32, T.take (posX d s.X) ++ T.drop (posX d s.X + 1), rfl, hv32, ?_⟩, Step.append_comm (L1 := Lv32) (L2 := [_]) hs4⟩
      simp only [e]
      exact (o.view.take _).append (o.view.drop _)
    · cases h
theorem rbC_set {d : List UInt8} (hd : d.length = 32) (v v' : Value) (st : Nat) : (rbC (d, v, st)).set (0 + 32) v' = rbC (d, v', st) := by
  have h : (u8s d).length = 32 := by simp [u8s, hd]
  show (u8s d ++ [v, Value.int .i64 (st : Nat)]).set (0 + 32) v' = u8s d ++ [v', Value.int .i64 (st : Nat)]
  rw [List.set_append_right _ _ (by omega), h]
  rfl
set_option maxHeartbeats 2000000 in
theorem rtwin_abs (hR : RRep br s D R) (ok : s.Ok) (hw : Lives (R ++ D) w0) :
    Calls Try.prog 35 #[.pointer (some ⟨br, 0, none⟩)] w0 fun e w' => ∃ bt R' D', e = .returned (.pointer (some ⟨bt, 0, none⟩)) ∧ RRep bt s D' R' ∧ Step [] (R' ++ D') w0 w' := by
  have hobt := hR.open ok hw
  obtain ⟨a, c, Lv, T, o⟩ := hobt
  have hs : Step [] [] w0 w0 := Step.refl w0
  have hat : At w0 br 0 (rsC s.k s.cap s.last (.slice a s.X.length c) s.gets s.puts) := At.of_blk o.hb
  have hXl := used_len s.X
  have huse := ok.used
  have hTl := o.view.length
  rcases o.nilOr with ⟨rfl, hX0, rfl, rfl, rfl⟩ | ⟨bv, more, rfl, hLe, hcl, hnc⟩
  · skip
    refine calls (n := 37) Try.func35 rfl rfl rfl ?_
    refine CW.seq ?_
    refine CW.reg ?_
    refine WL.val rfl (run_assign) ?_
    refine WL.nil ?_
    refine CW.seq ?_
    refine CW.reg ?_
    refine WL.val rfl (run_move) ?_
    refine WL.val rfl (run_nilCheck rfl) ?_
    refine WL.val rfl (run_loadN ty70 rfl (cs := rsC s.k s.cap s.last (.slice _ s.X.length _) s.gets s.puts) (by rfl) (hat.step hs (by simp))) ?_
    refine WL.alloc ty70 rfl hs (fun b3 w hs => ?_)
    refine WL.storeAll ty70 rfl rfl ((by rfl)) (Cells1.of_all rfl) hs (by first | rfl | assumption) (fun w hs => ?_)
    refine WL.nil ?_
    refine CW.seq ?_
    refine CW.reg ?_
    refine WL.val rfl (run_field (o' := 3) Try.underlying70 rfl ty68 rfl rfl rfl) ?_
    refine WL.store1 ty68 rfl rfl (rfl) hs (by first | (simp; done) | omega | (simp only [List.length_append, List.length_replicate, List.length_cons, List.length_nil, List.length_set]; omega) | (simp [Ent.cells, u8s]; done) | exact Nat.le_of_ble_eq_true rfl) (fun w hs => ?_)
    refine WL.nil ?_
    replace hs : Step [] [(b3, blk 70 (rsC s.k s.cap s.last (.slice none 0 0) s.gets s.puts))] w0 w := hs
    refine CW.seq <| CW.seq ?_
    refine CW.reg ?_
    refine WL.val rfl (run_assign) ?_
    refine WL.nil ?_
    refine CW.block ?_
    refine CW.loop (fun m f w' => ∃ i v2 Lv2 T2 D2, i ≤ s.X.length ∧ m = s.X.length - i ∧ OwnSl 76 34 v2 i (rowsT T2) Lv2 ∧ RView D2 T2 (s.X.take i) ∧ Step [] ((b3, blk 70 (rsC s.k s.cap s.last v2 s.gets s.puts)) :: (Lv2 ++ D2)) w0 w' ∧ Holds f [(0, .pointer (some ⟨br, 0, none⟩)), (3, .pointer (some ⟨b3, 0, none⟩)), (4, .int .i64 (i : Nat))]) (m := s.X.length) ?_ ?_
    · exact ⟨0, _, [], [], [], Nat.zero_le _, rfl, OwnSl.nil _ _, .nil, hs, rfl, rfl, rfl, trivial⟩
    · rintro m f w ⟨i, v2, Lv2, T2, D2, hi, rfl, hv2, hview, hs, hf⟩
      have hobt := hf.chain
      obtain ⟨g, rfl⟩ := hobt
      have hobt := hv2.form
      obtain ⟨va2, vc2, rfl⟩ := hobt
      by_cases hlt : i < s.X.length
      · rw [hX0] at hlt
        simp at hlt
      · obtain rfl : i = s.X.length := by omega
        refine CW.seq <| CW.seq ?_
        refine CW.reg ?_
        refine WL.val rfl (run_move) ?_
        refine WL.val rfl (run_move) ?_
        refine WL.val rfl (run_nilCheck rfl) ?_
        refine WL.val rfl (run_field (o' := 3) Try.underlying70 rfl ty68 rfl rfl rfl) ?_
        refine WL.val rfl (run_load1 ty68 rfl ((hat.step hs.clear (by simp)).cell (j := 3) rfl)) ?_
        refine WL.val rfl (run_lenSl Try.underlying68 rfl) ?_
        refine WL.val rfl (run_bF (run_lss rfl rfl) (by omega)) ?_
        refine WL.nil ?_
        refine CW.cond rfl (fun h => ?_) (fun h => ?_)
        · cases h
        repeat (first | refine CW.seq ?_ | refine CW.exit ?_)
        refine CW.reg ?_
        refine WL.val rfl (run_assign) ?_
        refine WL.nil ?_
        refine CW.ret ?_
        refine fin_ret1 rfl ?_
        rw [List.take_length] at hview
        exact ⟨b3, _, D2, rfl, ⟨_, Lv2, T2, rfl, hv2, hview⟩, hs⟩
  · skip
    refine calls (n := 37) Try.func35 rfl rfl rfl ?_
    refine CW.seq ?_
    refine CW.reg ?_
    refine WL.val rfl (run_assign) ?_
    refine WL.nil ?_
    refine CW.seq ?_
    refine CW.reg ?_
    refine WL.val rfl (run_move) ?_
    refine WL.val rfl (run_nilCheck rfl) ?_
    refine WL.val rfl (run_loadN ty70 rfl (cs := rsC s.k s.cap s.last (.slice _ s.X.length _) s.gets s.puts) (by rfl) (hat.step hs (by simp))) ?_
    refine WL.alloc ty70 rfl hs (fun b3 w hs => ?_)
    refine WL.storeAll ty70 rfl rfl ((by rfl)) (Cells1.of_all rfl) hs (by first | rfl | assumption) (fun w hs => ?_)
    refine WL.nil ?_
    refine CW.seq ?_
    refine CW.reg ?_
    refine WL.val rfl (run_field (o' := 3) Try.underlying70 rfl ty68 rfl rfl rfl) ?_
    refine WL.store1 ty68 rfl rfl (rfl) hs (by first | (simp; done) | omega | (simp only [List.length_append, List.length_replicate, List.length_cons, List.length_nil, List.length_set]; omega) | (simp [Ent.cells, u8s]; done) | exact Nat.le_of_ble_eq_true rfl) (fun w hs => ?_)
    refine WL.nil ?_
    replace hs : Step [] [(b3, blk 70 (rsC s.k s.cap s.last (.slice none 0 0) s.gets s.puts))] w0 w := hs
    refine CW.seq <| CW.seq ?_
    refine CW.reg ?_
    refine WL.val rfl (run_assign) ?_
    refine WL.nil ?_
    refine CW.block ?_
    refine CW.loop (fun m f w' => ∃ i v2 Lv2 T2 D2, i ≤ s.X.length ∧ m = s.X.length - i ∧ OwnSl 76 34 v2 i (rowsT T2) Lv2 ∧ RView D2 T2 (s.X.take i) ∧ Step [] ((b3, blk 70 (rsC s.k s.cap s.last v2 s.gets s.puts)) :: (Lv2 ++ D2)) w0 w' ∧ Holds f [(0, .pointer (some ⟨br, 0, none⟩)), (3, .pointer (some ⟨b3, 0, none⟩)), (4, .int .i64 (i : Nat))]) (m := s.X.length) ?_ ?_
    · exact ⟨0, _, [], [], [], Nat.zero_le _, rfl, OwnSl.nil _ _, .nil, hs, rfl, rfl, rfl, trivial⟩
    · rintro m f w ⟨i, v2, Lv2, T2, D2, hi, rfl, hv2, hview, hs, hf⟩
      have hobt := hf.chain
      obtain ⟨g, rfl⟩ := hobt
      have hobt := hv2.form
      obtain ⟨va2, vc2, rfl⟩ := hobt
      by_cases hlt : i < s.X.length
      · have hobt : ∃ b, s.X[i]? = some b := ⟨_, List.getElem?_eq_getElem hlt⟩
        obtain ⟨b, hb⟩ := hobt
        have hrw := o.row hb
        obtain ⟨bv', v, hbv', hv, hrow⟩ := hrw
        obtain rfl : bv = bv' := by injection hbv' with he; injection he
        have hbl := ok.len b (List.mem_of_getElem? hb)
        have hbu := used_mem (List.mem_of_getElem? hb)
        have hvs := hv.sl o.dat
        have hobt := hv.form
        obtain ⟨va, vc, rfl⟩ := hobt
        have hx : (rbC (b.d, Value.slice va b.x.length vc, b.st)).length = 34 := rbC_len hbl
        refine CW.seq <| CW.seq ?_
        refine CW.reg ?_
        refine WL.val rfl (run_move) ?_
        refine WL.val rfl (run_move) ?_
        refine WL.val rfl (run_nilCheck rfl) ?_
        refine WL.val rfl (run_field (o' := 3) Try.underlying70 rfl ty68 rfl rfl rfl) ?_
        refine WL.val rfl (run_load1 ty68 rfl ((hat.step hs.clear (by simp)).cell (j := 3) rfl)) ?_
        refine WL.val rfl (run_lenSl Try.underlying68 rfl) ?_
        refine WL.val rfl (run_bT (run_lss rfl rfl) (by omega)) ?_
        refine WL.nil ?_
        refine CW.cond rfl (fun h => ?_) (fun h => ?_)
        · repeat (first | refine CW.seq ?_ | refine CW.block ?_ | refine CW.skip ?_)
          refine CW.reg ?_
          refine WL.val rfl (run_move) ?_
          refine WL.val rfl (run_nilCheck rfl) ?_
          refine WL.val rfl (run_field (o' := 3) Try.underlying70 rfl ty68 rfl rfl rfl) ?_
          refine WL.val rfl (run_load1 ty68 rfl ((hat.step hs.clear (by simp)).cell (j := 3) rfl)) ?_
          refine WL.val rfl (run_move) ?_
          refine WL.val rfl (run_ixSlN Try.underlying68 ty76 rfl rfl (by omega)) ?_
          refine WL.val rfl (run_loadN ty76 rfl hx (hrow.step hs.clear (by simp))) ?_
          refine WL.alloc ty76 rfl hs (fun b5 w hs => ?_)
          refine WL.storeAll ty76 rfl rfl ((hx)) (rbC_cells1 rfl) hs (by first | rfl | assumption) (fun w hs => ?_)
          refine WL.nil ?_
          refine CW.seq ?_
          refine CW.reg ?_
          refine WL.buildSlice (cs := []) Try.underlying22 ty5 rfl (by decide) rfl (by rfl) rfl hs (fun b26 w hs => ?_)
          have ho : OwnSl 5 1 (.slice (some ⟨b26, 0, none⟩) 0 0) 0 [] [(b26, blk 5 [])] := OwnSl.mk rfl
          refine WL.val rfl (run_field (o' := 32) Try.underlying76 rfl ty22 rfl rfl rfl) ?_
          refine WL.val rfl (run_load1 ty22 rfl (hs.tail.c0 (rbC_32 hbl))) ?_
          refine WL.append Try.underlying22 Try.underlying22 ty5 rfl (by decide) rfl rfl (ho) (hs) (hvs.step0 hs.clear) (Cells1.u8s _) (by first | omega | (simp only [List.length_append, List.length_cons, List.length_nil]; omega)) rfl (fun v29 Lv29 w hv29 hs => ?_)
          refine WL.val rfl (run_field (o' := 32) Try.underlying76 rfl ty22 rfl rfl rfl) ?_
          refine WL.store1 ty22 rfl rfl (hv29.one) (hs.front Lv29) (by first | (simp; done) | omega | (simp only [List.length_append, List.length_replicate, List.length_cons, List.length_nil, List.length_set]; omega) | (simp [Ent.cells, u8s]; done) | exact Nat.le_of_ble_eq_true rfl) (fun w hs => ?_)
          refine WL.nil ?_
          have hv29' : OwnSl 5 1 v29 b.x.length (u8s b.x) Lv29 := by have h := hv29; rw [Nat.zero_add, List.nil_append] at h; exact h
          have hobt := hv29'.form
          obtain ⟨xa, xc, rfl⟩ := hobt
          replace hs := Step.blkEq (rbC_set hbl _ (.slice xa b.x.length xc) b.st) hs
          have hx2 : (rbC (b.d, Value.slice xa b.x.length xc, b.st)).length = 34 := rbC_len hbl
          replace hs := Step.perm hs (List.Perm.cons _ (List.perm_append_comm (l₁ := Lv29)))
          refine CW.reg ?_
          refine WL.val rfl (run_field (o' := 3) Try.underlying70 rfl ty68 rfl rfl rfl) ?_
          refine WL.val rfl (run_load1 ty68 rfl (hs.c1 (v := .slice va2 i vc2) rfl)) ?_
          refine WL.val rfl (run_loadN ty76 rfl hx2 hs.a0) ?_
          refine WL.buildSlice (cs := rbC (b.d, Value.slice xa b.x.length xc, b.st)) Try.underlying68 ty76 rfl (by decide) rfl (filled1 hx2 rfl) rfl hs (fun b34 w hs => ?_)
          have hsl : Sl w 34 (.slice (some ⟨b34, 0, none⟩) 1 1) 1 (rbC (b.d, Value.slice xa b.x.length xc, b.st)) := .own1 hs (by rw [hx2])
          replace hs := Step.perm hs (List.Perm.trans (List.perm_append_comm (l₁ := [_, _, _]) (l₂ := (Lv2 ++ D2) ++ Lv29)) (List.Perm.of_eq (by rw [List.append_assoc, List.append_assoc])))
          refine WL.append Try.underlying68 Try.underlying68 ty76 rfl (by decide) rfl rfl (hv2) (hs) (hsl) (rbC_cells1 rfl) (by first | omega | (simp only [List.length_append, List.length_cons, List.length_nil]; omega)) rfl (fun v35 Lv35 w hv35 hs => ?_)
          replace hs := Step.front [_, _] (Step.append_comm (L1 := (Lv35 ++ D2) ++ Lv29) (L2 := [_, _, _]) (Step.perm hs (List.Perm.of_eq (by rw [List.append_assoc, List.append_assoc]))))
          refine WL.val rfl (run_field (o' := 3) Try.underlying70 rfl ty68 rfl rfl rfl) ?_
          refine WL.store1 ty68 rfl rfl (hv35.one) (hs) (by first | (simp; done) | omega | (simp only [List.length_append, List.length_replicate, List.length_cons, List.length_nil, List.length_set]; omega) | (simp [Ent.cells, u8s]; done) | exact Nat.le_of_ble_eq_true rfl) (fun w hs => ?_)
          refine WL.nil ?_
          refine CW.reg ?_
          refine WL.val rfl (run_move) ?_
          refine WL.val rfl (run_add (c := ((i + 1 : Nat) : Int)) rfl rfl (by omega) (by omega)) ?_
          refine WL.val rfl (run_assign) ?_
          refine WL.nil ?_
          have e2 : rowsT T2 ++ rbC (b.d, Value.slice xa b.x.length xc, b.st) = rowsT (T2 ++ [(b.d, Value.slice xa b.x.length xc, b.st)]) := by rw [rowsT_append]; simp [rowsT]
          rw [e2] at hv35
          have e3 : s.X.take (i + 1) = s.X.take i ++ [b] := by rw [List.take_add_one, hb]; rfl
          refine (show _ ∧ _ from ⟨rfl, _, ?_, i + 1, v35, Lv35, T2 ++ [(b.d, Value.slice xa b.x.length xc, b.st)], D2 ++ Lv29, hlt, rfl, hv35, ?_, ?_, rfl, rfl, rfl, trivial⟩)
          · omega
          · rw [e3]
            exact (hview.mono fun p hp => List.mem_append_left _ hp).append (.cons ⟨rfl, rfl, Lv29, hv29', fun p hp => List.mem_append_right _ hp⟩ .nil)
          · have hs2 : Step [] ((b3, blk 70 (rsC s.k s.cap s.last v35 s.gets s.puts)) :: _ :: _ :: ((Lv35 ++ D2) ++ Lv29)) w0 w := hs
            have hs3 := Step.append_comm (L1 := (Lv35 ++ D2) ++ Lv29) (L2 := [_]) (Step.tail (Step.tail (Step.append_comm (L1 := [_]) (L2 := _ :: _ :: ((Lv35 ++ D2) ++ Lv29)) hs2)))
            exact Step.perm hs3 (List.Perm.cons _ (List.Perm.of_eq (List.append_assoc Lv35 D2 Lv29)))
        · cases h
      · obtain rfl : i = s.X.length := by omega
        refine CW.seq <| CW.seq ?_
        refine CW.reg ?_
        refine WL.val rfl (run_move) ?_
        refine WL.val rfl (run_move) ?_
        refine WL.val rfl (run_nilCheck rfl) ?_
        refine WL.val rfl (run_field (o' := 3) Try.underlying70 rfl ty68 rfl rfl rfl) ?_
        refine WL.val rfl (run_load1 ty68 rfl ((hat.step hs.clear (by simp)).cell (j := 3) rfl)) ?_
        refine WL.val rfl (run_lenSl Try.underlying68 rfl) ?_
        refine WL.val rfl (run_bF (run_lss rfl rfl) (by omega)) ?_
        refine WL.nil ?_
        refine CW.cond rfl (fun h => ?_) (fun h => ?_)
        · cases h
        repeat (first | refine CW.seq ?_ | refine CW.exit ?_)
        refine CW.reg ?_
        refine WL.val rfl (run_assign) ?_
        refine WL.nil ?_
        refine CW.ret ?_
        refine fin_ret1 rfl ?_
        rw [List.take_length] at hview
        exact ⟨b3, _, D2, rfl, ⟨_, Lv2, T2, rfl, hv2, hview⟩, hs⟩
end
end Go.Gx
/-! Lw1 -/
namespace Go.Gx
open Go.Proofs
set_option linter.unusedVariables false
set_option linter.unusedSimpArgs false
set_option maxRecDepth 100000
theorem run_funcNil {P : Program} {f : Slots} {w : World} {d : Option Tmp} {ty : TypeId} {pos : String} {af : Array Edge} {x y : Operand} {T T' : TypeId} {F : Fn} {a b : Array Value} {A B : Array TypeId} {va : Bool} (hT : P.underlying T = some (.func A B va)) (hx : ev f x = .func F a b) (hy : ev f y = .nilFunc) :
    (execOp (ev f) ⟨d, .binOp .eql T x y T', ty, pos, af, none⟩).run P w = .ok (.value (.bool false)) w := by
  have h0 : ∀ d, (Op.equalIn (d + 1) T (.func F a b) .nilFunc).run P w = .ok false w := fun d => by simp [Op.equalIn, run_underlying hT]
  have h : (Op.equal T (.func F a b) .nilFunc).run P w = .ok false w := h0 9999
  simp [execOp, hx, hy, eqGuard, binOp, h]
section
variable {P : Program} {f : Slots} {w : World} {d : Option Tmp} {ty : TypeId} {pos : String} {af : Array Edge} {x y : Operand} {T T' E : TypeId} {a : Addr}
theorem run_ptrNil (hT : P.underlying T = some (.pointer E)) (hx : ev f x = .pointer (some a)) (hy : ev f y = .pointer none) : (execOp (ev f) ⟨d, .binOp .eql T x y T', ty, pos, af, none⟩).run P w = .ok (.value (.bool false)) w := by
  have h0 : ∀ d, (Op.equalIn (d + 1) T (.pointer (some a)) (.pointer none)).run P w = .ok false w := fun d => by simp [Op.equalIn, run_underlying hT, sameAddr]
  have h : (Op.equal T (.pointer (some a)) (.pointer none)).run P w = .ok false w := h0 9999
  simp [execOp, hx, hy, eqGuard, binOp, h]
theorem run_ptrNilNe (hT : P.underlying T = some (.pointer E)) (hx : ev f x = .pointer (some a)) (hy : ev f y = .pointer none) : (execOp (ev f) ⟨d, .binOp .neq T x y T', ty, pos, af, none⟩).run P w = .ok (.value (.bool true)) w := by
  have h0 : ∀ d, (Op.equalIn (d + 1) T (.pointer (some a)) (.pointer none)).run P w = .ok false w := fun d => by simp [Op.equalIn, run_underlying hT, sameAddr]
  have h : (Op.equal T (.pointer (some a)) (.pointer none)).run P w = .ok false w := h0 9999
  simp [execOp, hx, hy, eqGuard, binOp, h]
theorem run_nilNil (hT : P.underlying T = some (.pointer E)) (hx : ev f x = .pointer none) (hy : ev f y = .pointer none) : (execOp (ev f) ⟨d, .binOp .eql T x y T', ty, pos, af, none⟩).run P w = .ok (.value (.bool true)) w := by
  have h0 : ∀ d, (Op.equalIn (d + 1) T (.pointer none) (.pointer none)).run P w = .ok true w := fun d => by simp [Op.equalIn, run_underlying hT, sameAddr]
  have h : (Op.equal T (.pointer none) (.pointer none)).run P w = .ok true w := h0 9999
  simp [execOp, hx, hy, eqGuard, binOp, h]
end
theorem Sl.based {w : World} {v : Value} {n : Nat} {cs : List Value} (h : Sl w 1 v n cs) (h0 : 0 < n) : ∃ b off c, v = .slice (some ⟨b, off, none⟩) n c ∧ At w b off cs := by
  obtain ⟨hl, ⟨a, c, hc, h1⟩ | ⟨b, off, c, hc, hat⟩⟩ := h
  · omega
  · exact ⟨b, off, c, hc, hat⟩
theorem u8_cell {x : List UInt8} {i : Nat} {a : UInt8} (h : x[i]? = some a) : (u8s x)[i]? = some (.int .u8 a.toNat) := by simp [u8s, h]
theorem same1_spec {u v : Value} {x y : List UInt8} (w0 : World) (hu : Sl w0 1 u x.length (u8s x)) (hv : Sl w0 1 v y.length (u8s y)) (hsx : x.length < 1099511627776) (hsy : y.length < 1099511627776) : Calls Try.prog 18 #[u, v] w0 (Ret0 (.bool (decide (x = y))) w0) := by
  have hs : Step [] [] w0 w0 := Step.refl w0
  by_cases hl : x.length = y.length
  · by_cases h0 : x.length = 0
    · obtain rfl := List.eq_nil_of_length_eq_zero h0
      obtain rfl := List.eq_nil_of_length_eq_zero (hl.symm.trans h0)
      have hobt := hu.form
      obtain ⟨a, c, rfl⟩ := hobt
      have hobt := hv.form
      obtain ⟨a2, c2, rfl⟩ := hobt
      refine calls (n := 26) Try.func18 rfl rfl rfl ?_
      refine CW.seq ?_
      refine CW.reg ?_
      refine WL.val rfl (run_assign) ?_
      refine WL.nil ?_
      refine CW.seq <| CW.seq ?_
      refine CW.reg ?_
      refine WL.val rfl (run_move) ?_
      refine WL.val rfl (run_lenSl Try.underlying22 rfl) ?_
      refine WL.val rfl (run_move) ?_
      refine WL.val rfl (run_lenSl Try.underlying22 rfl) ?_
      refine WL.val rfl (run_bF (run_neq rfl rfl) (by simp)) ?_
      refine WL.nil ?_
      refine CW.cond rfl (fun h => ?_) (fun h => ?_)
      · cases h
      repeat (first | refine CW.seq ?_ | refine CW.skip ?_)
      refine CW.reg ?_
      refine WL.val rfl (run_assign) ?_
      refine WL.nil ?_
      refine CW.block ?_
      refine CW.loop (fun m f w' => m = 0 ∧ Step [] [] w0 w' ∧ Holds f [(0, .slice a 0 c), (5, .int .i64 0)]) (m := 0) ?_ ?_
      · exact ⟨rfl, hs, rfl, rfl, trivial⟩
      · rintro m f w ⟨rfl, hs, hf⟩
        have hobt := hf.chain
        obtain ⟨g, rfl⟩ := hobt
        refine CW.seq <| CW.seq ?_
        refine CW.reg ?_
        refine WL.val rfl (run_move) ?_
        refine WL.val rfl (run_move) ?_
        refine WL.val rfl (run_lenSl Try.underlying22 rfl) ?_
        refine WL.val rfl (run_bF (run_lss rfl rfl) (by simp)) ?_
        refine WL.nil ?_
        refine CW.cond rfl (fun h => ?_) (fun h => ?_)
        · cases h
        repeat (first | refine CW.seq ?_ | refine CW.exit ?_)
        refine CW.reg ?_
        refine WL.val rfl (run_assign) ?_
        refine WL.nil ?_
        refine CW.ret ?_
        refine fin_ret1 rfl ?_
        exact ⟨rfl, hs⟩
    · have hobt := hu.based (by omega)
      obtain ⟨b, off, c, rfl, hat⟩ := hobt
      have hobt := hv.based (by omega)
      obtain ⟨b2, off2, c2, rfl, hat2⟩ := hobt
      refine calls (n := 26) Try.func18 rfl rfl rfl ?_
      refine CW.seq ?_
      refine CW.reg ?_
      refine WL.val rfl (run_assign) ?_
      refine WL.nil ?_
      refine CW.seq <| CW.seq ?_
      refine CW.reg ?_
      refine WL.val rfl (run_move) ?_
      refine WL.val rfl (run_lenSl Try.underlying22 rfl) ?_
      refine WL.val rfl (run_move) ?_
      refine WL.val rfl (run_lenSl Try.underlying22 rfl) ?_
      refine WL.val rfl (run_bF (run_neq rfl rfl) (by omega)) ?_
      refine WL.nil ?_
      refine CW.cond rfl (fun h => ?_) (fun h => ?_)
      · cases h
      repeat (first | refine CW.seq ?_ | refine CW.skip ?_)
      refine CW.reg ?_
      refine WL.val rfl (run_assign) ?_
      refine WL.nil ?_
      refine CW.block ?_
      refine CW.loop (fun m f w' => ∃ i, i ≤ x.length ∧ m = x.length - i ∧ (∀ j, j < i → x[j]? = y[j]?) ∧ Step [] [] w0 w' ∧ Holds f [(0, .slice (some ⟨b, off, none⟩) x.length c), (1, .slice (some ⟨b2, off2, none⟩) y.length c2), (5, .int .i64 (i : Nat))]) (m := x.length) ?_ ?_
      · exact ⟨0, Nat.zero_le _, rfl, fun j hj => by omega, hs, rfl, rfl, rfl, trivial⟩
      · rintro m f w ⟨i, hi, rfl, heq, hs, hf⟩
        have hobt := hf.chain
        obtain ⟨g, rfl⟩ := hobt
        by_cases hlt : i < x.length
        · have hobt : ∃ a, x[i]? = some a := ⟨_, List.getElem?_eq_getElem hlt⟩
          obtain ⟨a, ha⟩ := hobt
          have hobt : ∃ a2, y[i]? = some a2 := ⟨_, List.getElem?_eq_getElem (by omega)⟩
          obtain ⟨a2, ha2⟩ := hobt
          have hc1 : ∀ {w}, Step [] [] w0 w → w.cell? ⟨b, off + i * 1, none⟩ = some (.int .u8 a.toNat) := fun {w} h => by rw [Nat.mul_one]; exact (hat.step h (by simp)).cell (u8_cell ha)
          have hc2 : ∀ {w}, Step [] [] w0 w → w.cell? ⟨b2, off2 + i * 1, none⟩ = some (.int .u8 a2.toNat) := fun {w} h => by rw [Nat.mul_one]; exact (hat2.step h (by simp)).cell (u8_cell ha2)
          by_cases hab : a = a2
          · subst hab
            refine CW.seq <| CW.seq ?_
            refine CW.reg ?_
            refine WL.val rfl (run_move) ?_
            refine WL.val rfl (run_move) ?_
            refine WL.val rfl (run_lenSl Try.underlying22 rfl) ?_
            refine WL.val rfl (run_bT (run_lss rfl rfl) (by omega)) ?_
            refine WL.nil ?_
            refine CW.cond rfl (fun h => ?_) (fun h => ?_)
            · repeat (first | refine CW.seq ?_ | refine CW.block ?_ | refine CW.skip ?_)
              refine CW.quiet mixedP (by kernel_rfl) hs ?_
              refine QL.val rfl (fun w hs => run_move) ?_
              refine QL.val rfl (fun w hs => run_move) ?_
              refine QL.val rfl (fun w hs => run_ixSlN Try.underlying22 ty5 rfl rfl (by omega)) ?_
              refine QL.val rfl (fun w hs => run_load1 ty5 rfl (hc1 hs)) ?_
              refine QL.val rfl (fun w hs => run_move) ?_
              refine QL.val rfl (fun w hs => run_move) ?_
              refine QL.val rfl (fun w hs => run_ixSlN Try.underlying22 ty5 rfl rfl (by omega)) ?_
              refine QL.val rfl (fun w hs => run_load1 ty5 rfl (hc2 hs)) ?_
              refine QL.val rfl (fun w hs => run_bF (run_neq rfl rfl) (by simp)) ?_
              refine QL.nil (fun w hs => ?_)
              refine CW.cond rfl (fun h2 => ?_) (fun h2 => ?_)
              · cases h2
              refine CW.skip ?_
              refine CW.reg ?_
              refine WL.val rfl (run_move) ?_
              refine WL.val rfl (run_add (c := ((i + 1 : Nat) : Int)) rfl rfl (by omega) (by omega)) ?_
              refine WL.val rfl (run_assign) ?_
              refine WL.nil ?_
              refine (show _ ∧ _ from ⟨rfl, _, ?_, i + 1, hlt, rfl, ?_, hs, rfl, rfl, rfl, trivial⟩)
              · omega
              · intro j hj
                by_cases hji : j = i
                · subst hji; rw [ha, ha2]
                · exact heq j (by omega)
            · cases h
          · have hne : (a.toNat : Int) ≠ a2.toNat := fun e => hab (UInt8.toNat_inj.1 (by omega))
            have e : decide (x = y) = false := decide_eq_false fun h => by rw [h, ha2] at ha; exact hab (Option.some.inj ha).symm
            refine CW.seq <| CW.seq ?_
            refine CW.reg ?_
            refine WL.val rfl (run_move) ?_
            refine WL.val rfl (run_move) ?_
            refine WL.val rfl (run_lenSl Try.underlying22 rfl) ?_
            refine WL.val rfl (run_bT (run_lss rfl rfl) (by omega)) ?_
            refine WL.nil ?_
            refine CW.cond rfl (fun h => ?_) (fun h => ?_)
            · repeat (first | refine CW.seq ?_ | refine CW.block ?_ | refine CW.skip ?_)
              refine CW.quiet mixedP (by kernel_rfl) hs ?_
              refine QL.val rfl (fun w hs => run_move) ?_
              refine QL.val rfl (fun w hs => run_move) ?_
              refine QL.val rfl (fun w hs => run_ixSlN Try.underlying22 ty5 rfl rfl (by omega)) ?_
              refine QL.val rfl (fun w hs => run_load1 ty5 rfl (hc1 hs)) ?_
              refine QL.val rfl (fun w hs => run_move) ?_
              refine QL.val rfl (fun w hs => run_move) ?_
              refine QL.val rfl (fun w hs => run_ixSlN Try.underlying22 ty5 rfl rfl (by omega)) ?_
              refine QL.val rfl (fun w hs => run_load1 ty5 rfl (hc2 hs)) ?_
              refine QL.val rfl (fun w hs => run_bT (run_neq rfl rfl) (by exact hne)) ?_
              refine QL.nil (fun w hs => ?_)
              refine CW.cond rfl (fun h2 => ?_) (fun h2 => ?_)
              · refine CW.seq ?_
                refine CW.reg ?_
                refine WL.val rfl (run_assign) ?_
                refine WL.nil ?_
                refine CW.ret ?_
                refine fin_ret1 rfl ?_
                exact ⟨congrArg (fun b => Ending.returned (.bool b)) e.symm, hs⟩
              · cases h2
            · cases h
        · obtain rfl : i = x.length := by omega
          have e : decide (x = y) = true := decide_eq_true (List.ext_getElem? fun j => by
            by_cases hj : j < x.length
            · exact heq j hj
            · rw [List.getElem?_eq_none (by omega), List.getElem?_eq_none (by omega)])
          refine CW.seq <| CW.seq ?_
          refine CW.reg ?_
          refine WL.val rfl (run_move) ?_
          refine WL.val rfl (run_move) ?_
          refine WL.val rfl (run_lenSl Try.underlying22 rfl) ?_
          refine WL.val rfl (run_bF (run_lss rfl rfl) (by omega)) ?_
          refine WL.nil ?_
          refine CW.cond rfl (fun h => ?_) (fun h => ?_)
          · cases h
          repeat (first | refine CW.seq ?_ | refine CW.exit ?_)
          refine CW.reg ?_
          refine WL.val rfl (run_assign) ?_
          refine WL.nil ?_
          refine CW.ret ?_
          refine fin_ret1 rfl ?_
          exact ⟨congrArg (fun b => Ending.returned (.bool b)) e.symm, hs⟩
  · have e : decide (x = y) = false := decide_eq_false fun h => hl (by rw [h])
    have hobt := hu.form
    obtain ⟨a, c, rfl⟩ := hobt
    have hobt := hv.form
    obtain ⟨a2, c2, rfl⟩ := hobt
    refine calls (n := 26) Try.func18 rfl rfl rfl ?_
    refine CW.seq ?_
    refine CW.reg ?_
    refine WL.val rfl (run_assign) ?_
    refine WL.nil ?_
    refine CW.seq <| CW.seq ?_
    refine CW.reg ?_
    refine WL.val rfl (run_move) ?_
    refine WL.val rfl (run_lenSl Try.underlying22 rfl) ?_
    refine WL.val rfl (run_move) ?_
    refine WL.val rfl (run_lenSl Try.underlying22 rfl) ?_
    refine WL.val rfl (run_bT (run_neq rfl rfl) (by omega)) ?_
    refine WL.nil ?_
    refine CW.cond rfl (fun h => ?_) (fun h => ?_)
    · refine CW.seq ?_
      refine CW.reg ?_
      refine WL.val rfl (run_assign) ?_
      refine WL.nil ?_
      refine CW.ret ?_
      refine fin_ret1 rfl ?_
      exact ⟨congrArg (fun b => Ending.returned (.bool b)) e.symm, hs⟩
    · cases h
/-- A number from 0 to n - 1. -/
def roundZ (a : Int) (n : Nat) : Nat := (a % (n : Int)).toNat
theorem roundZ_lt {a : Int} {n : Nat} (h : 0 < n) : roundZ a n < n := by
  have h1 := Int.emod_nonneg a (show (n : Int) ≠ 0 by omega)
  have h2 := Int.emod_lt_of_pos a (show (0 : Int) < n by omega)
  unfold roundZ
  omega
theorem roundL_spec {a : Int} {n : Nat} (h : 0 < n) (hn : n < 1099511627776) (ha : -9223372036854775808 ≤ a ∧ a ≤ 9223372036854775807) (w0 : World) : Calls Try.prog 24 #[.int .i64 a, .int .i64 (n : Nat)] w0 (Ret0 (.int .i64 (roundZ a n : Nat)) w0) := by
  have hs : Step [] [] w0 w0 := Step.refl w0
  have h1 := Int.emod_nonneg a (show (n : Int) ≠ 0 by omega)
  have h2 := Int.emod_lt_of_pos a (show (0 : Int) < n by omega)
  have ht : a.tmod n = a % n ∨ a.tmod n = a % n - n := by
    rw [Int.tmod_eq_emod]
    split
    · left; omega
    · right; simp [Int.natAbs]
  have hrz : ((roundZ a n : Nat) : Int) = a % n := by unfold roundZ; omega
  by_cases hneg : a.tmod n < 0
  · have e : a.tmod n + n = (roundZ a n : Nat) := by omega
    refine calls (n := 15) Try.func24 rfl rfl rfl ?_
    refine CW.seq ?_
    refine CW.reg ?_
    refine WL.val rfl (run_assign) ?_
    refine WL.nil ?_
    refine CW.seq ?_
    refine CW.reg ?_
    refine WL.val rfl (run_move) ?_
    refine WL.val rfl (run_move) ?_
    refine WL.val rfl (run_rem rfl rfl (by omega)) ?_
    refine WL.val rfl (run_assign) ?_
    refine WL.nil ?_
    refine CW.seq <| CW.seq ?_
    refine CW.reg ?_
    refine WL.val rfl (run_move) ?_
    refine WL.val rfl (run_bT (run_lss rfl rfl) (by exact hneg)) ?_
    refine WL.nil ?_
    refine CW.cond rfl (fun h => ?_) (fun h => ?_)
    · skip
      refine CW.reg ?_
      refine WL.val rfl (run_move) ?_
      refine WL.val rfl (run_move) ?_
      refine WL.val rfl (run_add (c := ((roundZ a n : Nat) : Int)) rfl rfl (by omega) (by omega)) ?_
      refine WL.val rfl (run_assign) ?_
      refine WL.nil ?_
      refine CW.seq ?_
      refine CW.reg ?_
      refine WL.val rfl (run_move) ?_
      refine WL.val rfl (run_assign) ?_
      refine WL.nil ?_
      refine CW.ret ?_
      refine fin_ret1 rfl ?_
      exact ⟨rfl, hs⟩
    · cases h
  · have e : a.tmod n = (roundZ a n : Nat) := by omega
    refine calls (n := 15) Try.func24 rfl rfl rfl ?_
    refine CW.seq ?_
    refine CW.reg ?_
    refine WL.val rfl (run_assign) ?_
    refine WL.nil ?_
    refine CW.seq ?_
    refine CW.reg ?_
    refine WL.val rfl (run_move) ?_
    refine WL.val rfl (run_move) ?_
    refine WL.val rfl (run_rem rfl rfl (by omega)) ?_
    refine WL.val rfl (run_assign) ?_
    refine WL.nil ?_
    refine CW.seq <| CW.seq ?_
    refine CW.reg ?_
    refine WL.val rfl (run_move) ?_
    refine WL.val rfl (run_bF (run_lss rfl rfl) (by exact hneg)) ?_
    refine WL.nil ?_
    refine CW.cond rfl (fun h => ?_) (fun h => ?_)
    · cases h
    repeat (first | refine CW.seq ?_ | refine CW.skip ?_)
    refine CW.reg ?_
    refine WL.val rfl (run_move) ?_
    refine WL.val rfl (run_assign) ?_
    refine WL.nil ?_
    refine CW.ret ?_
    refine fin_ret1 rfl ?_
    exact ⟨congrArg (fun z => Ending.returned (.int .i64 z)) e, hs⟩
end Go.Gx
/-! Lw2 -/
namespace Go.Gx
open Go.Proofs
set_option linter.unusedVariables false
set_option linter.unusedSimpArgs false
set_option maxRecDepth 100000
theorem front97 : frontL [97] 2 = [202, 151] ++ List.replicate 30 0 := by decide +kernel
attribute [local irreducible] shaL cutD frontL
theorem View.mem {D : List (Nat × Obj)} {M : List MEnt} {X : List Blb} (h : View D M X) {p : MEnt} (hp : p ∈ M) : ∃ b ∈ X, EntB D p b := by
  induction h with
  | nil => cases hp
  | cons h _ ih =>
    rcases List.mem_cons.1 hp with rfl | hp
    · exact ⟨_, by simp, h⟩
    · have hobt := ih hp
      obtain ⟨b, hb, he⟩ := hobt
      exact ⟨b, by simp [hb], he⟩
theorem perm_end2 {α : Type} {A B : List α} {x y : α} : (x :: ((A ++ B) ++ [y])).Perm (A ++ (B ++ [y, x])) := by
  have h : (x :: ((A ++ B) ++ [y])).Perm (((A ++ B) ++ [y]) ++ [x]) := List.perm_append_comm (l₁ := [x])
  simpa [List.append_assoc] using h
theorem Lives.of3 {S : List Nat} {L1 L2 L3 : List (Nat × Obj)} {w w0 : World} (h : Step S (L1 ++ (L2 ++ L3)) w0 w) : Lives (L1 ++ L2) w := Lives.of (L2 := L3) (by rw [List.append_assoc]; exact h)
theorem Step.callAll0 {S : List Nat} {L : List (Nat × Obj)} {w0 w w' : World} (h : Step S [] w0 w) (hc : Step [] L w w') : Step S L w0 w' := by
  have := Step.call0 h hc
  rwa [List.append_nil] at this
section
variable {bs : Nat} {s : AS} {D L : List (Nat × Obj)} {w0 : World}
/-- All: a sequence; what it reads is new but for the bytes in D. -/
theorem all_abs (hR : PRep bs s D L) (ok : s.Ok) (hw : Lives (L ++ D) w0) : Calls Try.prog 36 #[.pointer (some ⟨bs, 0, none⟩)] w0 fun e w' => ∃ b3 lv Lv R, e = .returned (.func (.func 57) #[] #[.pointer (some ⟨b3, 0, none⟩)]) ∧
    OwnSl 101 33 lv R.length (rowsR R) Lv ∧ R.length = s.X.length ∧ (∀ (i : Nat) (r : Row) (b : Blb), (R : List Row)[i]? = some r → s.X[i]? = some b → r.d = b.d ∧ Held D r.v b.x) ∧ Step [] ((b3, blk 99 [lv]) :: Lv) w0 w' := by
  have hobt := hR.open ok hw
  obtain ⟨m, clock, M, X', o⟩ := hobt
  have hlenM : M.length = s.X.length := by rw [o.view.length, o.perm.length_eq]
  have hul := used_len s.X
  have hou := ok.used
  refine (all_spec w0 o.hb o.hm o.keys o.born o.view.blobV (by omega)).mono fun e w' ⟨b3, lv, Lv, R, h1, h2, h3, h4, h5⟩ => ?_
  have hRl : R.length = s.X.length := by have := h2.length_eq; simp only [List.length_map] at this; omega
  have hd : R.map (fun r => r.d) = s.X.map (fun b => b.d) := by
    have hp1 : (R.map (fun r => r.d)).Perm (s.X.map (fun b => b.d)) := by
      have e1 : R.map (fun r => r.d) = (R.map (fun r => (r.d, r.v))).map Prod.fst := by simp [List.map_map, Function.comp_def]
      have e2 : M.map (fun p => p.1) = (M.map (fun p => (p.1, datV p.2.1))).map Prod.fst := by simp [List.map_map, Function.comp_def]
      rw [e1]
      refine (h2.map Prod.fst).trans ?_
      rw [← e2, o.view.fst]
      exact o.perm.map _
    refine hp1.eq_of_pairwise (le := fun a b => ltD b a = false) (fun a b _ _ h1 h2 => ltD_tri _ _ h2 h1) ?_ ?_
    · rw [List.pairwise_map]; exact h3
    · rw [List.pairwise_map]; exact ok.sorted.imp fun h => ltD_asymm h
  refine ⟨b3, lv, Lv, R, h1, h4, hRl, fun i r b hr hb => ?_, h5⟩
  have hdi : r.d = b.d := by
    have h6 : (R.map (fun r => r.d))[i]? = some r.d := by rw [List.getElem?_map, hr]; rfl
    rw [hd, List.getElem?_map, hb] at h6
    exact (Option.some.inj h6).symm
  refine ⟨hdi, ?_⟩
  have h7 : (r.d, r.v) ∈ M.map (fun p => (p.1, datV p.2.1)) := h2.mem_iff.1 (List.mem_map.2 ⟨r, List.mem_of_getElem? hr, rfl⟩)
  have hobt := List.mem_map.1 h7
  obtain ⟨p, hp, hpe⟩ := hobt
  rw [Prod.mk.injEq] at hpe
  have hobt := o.view.mem hp
  obtain ⟨b', hb', hE⟩ := hobt
  obtain ⟨hE1, v, hE2, hE3⟩ := hE
  have hbb : b' = b := by
    have h8 := findX_mem ok.sorted.nodup (o.perm.mem_iff.1 hb')
    have h9 := findX_mem ok.sorted.nodup (List.mem_of_getElem? hb)
    rw [show b'.d = b.d by rw [← hE1, hpe.1, hdi]] at h8
    rw [h8] at h9
    exact Option.some.inj h9
  subst hbb
  have : datV p.2.1 = v := by rw [hE2]; rfl
  rw [← hpe.2, this]
  exact hE3
theorem head_spec (w0 : World) : Calls Try.prog 10 #[] w0 (Ret0 (.bool true) w0) := by
  have hs : Step [] [] w0 w0 := Step.refl w0
  have ok0 : (newS 2 70).Ok := newS_ok (by decide) (by decide) (by decide)
  have hfl : frontL [97] 2 = [202, 151] ++ List.replicate 30 0 := front97
  have hf32 : (frontL [97] 2).length = 32 := frontL_len (by decide)
  have e1 : (newS 2 70).put [97] = (frontL [97] 2, 0, AS.mk 2 70 1 0 1 [⟨frontL [97] 2, [97], 1⟩]) := by
    simp [AS.put, newS, findX, AS.lay, insX, usedX]
  have ok1 : (AS.mk 2 70 1 0 1 [⟨frontL [97] 2, [97], 1⟩]).Ok := by have := ok0.put [97]; rw [e1] at this; exact this
  have e2 : (AS.mk 2 70 1 0 1 [⟨frontL [97] 2, [97], 1⟩]).get (frontL [97] 2) = ([97], 0) := by
    simp [AS.get, findX]
  have hfl32 : (u8s (frontL [97] 2)).length = 32 := by rw [u8s, List.length_map, hf32]
  have hput := fun {bs L w v} (hR : PRep bs (newS 2 70) [] L) (hl : Lives (L ++ []) w) hy hr hO => put_abs (w0 := w) (v := v) (y := [97]) (n := 0) hR ok0 newS_few (by decide) hl hy hr hO (by decide)
  have hget := fun {bs D L w} (hR : PRep bs (AS.mk 2 70 1 0 1 [⟨frontL [97] 2, [97], 1⟩]) D L) (hl : Lives (L ++ D) w) => get_abs (w0 := w) (n := 1) (d := frontL [97] 2) hR ok1 ⟨Nat.le_refl _, Nat.zero_le _, Nat.le_refl _⟩ (by decide) hl hf32
  have husd := fun {bs D L w} (hR : PRep bs (AS.mk 2 70 1 0 1 [⟨frontL [97] 2, [97], 1⟩]).got D L) (hl : Lives (L ++ D) w) => used_abs (w0 := w) hR ok1.got hl
  simp only [e1] at hput
  simp only [e2] at hget
  have hu33 : usedX (AS.mk 2 70 1 0 1 [⟨frontL [97] 2, [97], 1⟩]).got.X = 33 := rfl
  simp only [hu33] at husd
  have hc0 : (u8s (frontL [97] 2))[0 + 0 * 1]? = some (.int .u8 202) := by rw [hfl]; rfl
  have hc1 : (u8s (frontL [97] 2))[0 + 1 * 1]? = some (.int .u8 151) := by rw [hfl]; rfl
  have hc2 : (u8s (frontL [97] 2))[0 + 2 * 1]? = some (.int .u8 0) := by rw [hfl]; rfl
  refine calls (n := 65) Try.func10 rfl rfl rfl ?_
  refine CW.seq ?_
  refine CW.reg ?_
  refine WL.val rfl (run_assign) ?_
  refine WL.nil ?_
  refine CW.seq ?_
  refine CW.reg ?_
  refine WL.enter rfl (run_call en20 rfl rfl) (new_abs (k := 2) (c := 70) (by decide) (by decide) (by decide) _) ?_
  rintro e w ⟨bs, L1, rfl, hR, hq⟩
  refine ⟨_, rfl, ?_⟩
  replace hs := hs.callAll0 hq
  refine WL.val rfl (run_move) ?_
  refine WL.val rfl (run_extract rfl rfl) ?_
  refine WL.val rfl (run_extract rfl rfl) ?_
  refine WL.val rfl (run_assign) ?_
  refine WL.val rfl (run_assign) ?_
  refine WL.nil ?_
  have hl1 : Lives (L1 ++ []) _ := Lives.of (L2 := []) (by rw [List.append_nil, List.append_nil]; exact hs)
  refine CW.seq <| CW.seq ?_
  refine CW.reg ?_
  refine WL.val rfl (run_move) ?_
  refine WL.val rfl (run_bF (run_neq rfl rfl) (by decide)) ?_
  refine WL.val rfl (run_move) ?_
  refine WL.yes rfl rfl rfl ?_; refine WL.val rfl (run_move) ?_
  refine WL.yes rfl rfl rfl ?_
  refine WL.val rfl (run_ptrNil Try.underlying24 rfl rfl) ?_
  refine WL.val rfl (run_pickF rfl) ?_
  refine WL.val rfl (run_move) ?_
  refine WL.yes rfl rfl rfl ?_; refine WL.val rfl (run_move) ?_
  refine WL.yes rfl rfl rfl ?_
  refine WL.enter rfl (run_call en36 rfl rfl) (all_abs hR ok0 hl1) ?_
  rintro e w ⟨b3, lv, Lv, R, rfl, ha1, ha2, ha3, hq⟩
  refine ⟨_, rfl, ?_⟩
  replace hs := Step.append_comm (L2 := L1) (Step.call0 hs hq)
  refine WL.yes rfl rfl rfl ?_
  refine WL.val rfl (run_funcNil Try.underlying73 rfl rfl) ?_
  refine WL.val rfl (run_pickF rfl) ?_
  refine WL.nil ?_
  refine CW.cond rfl (fun h => ?_) (fun h => ?_)
  · cases h
  replace hs := hs.dropR (L1 := L1)
  repeat (first | refine CW.seq ?_ | refine CW.skip ?_)
  refine CW.reg ?_
  refine WL.val rfl (run_move) ?_
  refine WL.buildSlice (cs := u8s [97]) Try.underlying22 ty5 rfl (by decide) rfl (by rfl) rfl hs (fun b24 w hs => ?_)
  have hl2 : Lives (L1 ++ []) w := Lives.of (L2 := []) (by rw [List.append_nil, List.append_nil]; exact hs.tail)
  have hy1 : Sl w 1 (.slice (some ⟨b24, 0, none⟩) 1 1) 1 (u8s [97]) := .own1 hs rfl
  have hO1 : Outside (.slice (some ⟨b24, 0, none⟩) 1 1) (L1.map (·.1)) := fun hm => (List.nodup_cons.1 hs.nodup).1 hm
  refine WL.enter rfl (run_call en12 rfl rfl) (hput hR hl2 hy1 (Nat.le_refl 1) (.inr hO1)) ?_
  rintro e w ⟨L2, D2, rfl, hR2, hq⟩
  refine ⟨_, rfl, ?_⟩
  replace hs := Step.call (L1 := L1) (L := [_]) (Step.append_comm (L1 := [_]) hs) hq
  refine WL.val rfl (run_move) ?_
  refine WL.val rfl (run_extract rfl rfl) ?_
  refine WL.val rfl (run_extract rfl rfl) ?_
  refine WL.alloc ty27 rfl hs (fun b3 w hs => ?_)
  refine WL.storeAll ty27 rfl rfl ((hfl32)) (Cells1.u8s _) hs (by first | rfl | assumption) (fun w hs => ?_)
  refine WL.val rfl (run_assign) ?_
  refine WL.nil ?_
  replace hs := hs.perm perm_end2
  have hl3 : Lives (L2 ++ (D2 ++ [])) w := by rw [List.append_nil]; exact Lives.of (L2 := [_, _]) (by rw [List.append_assoc]; exact hs)
  refine CW.seq ?_
  refine CW.reg ?_
  refine WL.val rfl (run_move) ?_
  refine WL.val rfl (run_loadN ty27 rfl hfl32 (At.of_blk (hs.dropL (L1 := L2)).dropL.tail.hd)) ?_
  refine WL.enter rfl (run_call en19 rfl rfl) (hget hR2 hl3) ?_
  rintro e w ⟨v', Lv', L3, rfl, hu', hR3, hq⟩
  refine ⟨_, rfl, ?_⟩
  replace hs := Step.call (L1 := L2) hs hq
  refine WL.val rfl (run_move) ?_
  refine WL.val rfl (run_extract rfl rfl) ?_
  refine WL.val rfl (run_extract rfl rfl) ?_
  refine WL.val rfl (run_assign) ?_
  refine WL.val rfl (run_assign) ?_
  refine WL.nil ?_
  replace hs := Step.perm hs ((List.perm_append_comm (l₁ := L3) (l₂ := Lv')).append_right _ |>.trans (List.Perm.of_eq (List.append_assoc _ _ _)))
  refine CW.seq ?_
  refine CW.reg ?_
  refine WL.val rfl (run_move) ?_
  refine WL.val rfl (run_bT (run_eql rfl rfl) (by decide)) ?_
  refine WL.val rfl (run_move) ?_
  refine WL.yes rfl rfl rfl ?_; refine WL.val rfl (run_move) ?_
  refine WL.yes rfl rfl rfl ?_
  refine WL.val rfl (run_bT (run_eql rfl rfl) (by decide)) ?_
  refine WL.val rfl (run_pickT rfl) ?_
  refine WL.val rfl (run_move) ?_
  refine WL.yes rfl rfl rfl ?_; refine WL.val rfl (run_move) ?_
  refine WL.yes rfl rfl rfl ?_
  refine WL.buildSlice (cs := u8s [97]) (vs := [(0, Value.int .u8 97)]) Try.underlying22 ty5 rfl (by decide) rfl (by rfl) rfl hs (fun b42 w hs => ?_)
  refine WL.yes rfl rfl rfl ?_
  refine WL.enter rfl (run_call en18 rfl rfl) (same1_spec (x := [97]) (y := [97]) _ (hu'.sl hs.tail) (.own1 hs rfl) (by decide) (by decide)) ?_
  rintro e w ⟨rfl, hq⟩
  refine ⟨_, rfl, ?_⟩
  replace hs := hs.callE hq
  refine WL.val rfl (run_pickT rfl) ?_
  refine WL.val rfl (run_move) ?_
  refine WL.yes rfl rfl rfl ?_; refine WL.val rfl (run_ixArrN (i := 0) Try.underlying27 ty5 rfl rfl (by omega)) ?_
  refine WL.yes rfl rfl rfl ?_
  refine WL.val rfl (run_load1 ty5 rfl (Step.inCell (T := 27) (cs := u8s (frontL [97] 2)) hs (by simp) hc0)) ?_
  refine WL.yes rfl rfl rfl ?_
  refine WL.val rfl (run_bT (run_eql rfl rfl) (by decide)) ?_
  refine WL.val rfl (run_pickT rfl) ?_
  refine WL.val rfl (run_move) ?_
  refine WL.yes rfl rfl rfl ?_; refine WL.val rfl (run_ixArrN (i := 1) Try.underlying27 ty5 rfl rfl (by omega)) ?_
  refine WL.yes rfl rfl rfl ?_
  refine WL.val rfl (run_load1 ty5 rfl (Step.inCell (T := 27) (cs := u8s (frontL [97] 2)) hs (by simp) hc1)) ?_
  refine WL.yes rfl rfl rfl ?_
  refine WL.val rfl (run_bT (run_eql rfl rfl) (by decide)) ?_
  refine WL.val rfl (run_pickT rfl) ?_
  refine WL.val rfl (run_move) ?_
  refine WL.yes rfl rfl rfl ?_; refine WL.val rfl (run_ixArrN (i := 2) Try.underlying27 ty5 rfl rfl (by omega)) ?_
  refine WL.yes rfl rfl rfl ?_
  refine WL.val rfl (run_load1 ty5 rfl (Step.inCell (T := 27) (cs := u8s (frontL [97] 2)) hs (by simp) hc2)) ?_
  refine WL.yes rfl rfl rfl ?_
  refine WL.val rfl (run_bT (run_eql rfl rfl) (by decide)) ?_
  refine WL.val rfl (run_pickT rfl) ?_
  refine WL.val rfl (run_move) ?_
  refine WL.yes rfl rfl rfl ?_; refine WL.val rfl (run_move) ?_
  refine WL.yes rfl rfl rfl ?_
  refine WL.enter rfl (run_call en22 rfl rfl) (husd hR3 (by rw [List.append_nil]; exact Lives.of3 (hs.tail.dropL (L1 := Lv')))) ?_
  rintro e w ⟨rfl, hq⟩
  refine ⟨_, rfl, ?_⟩
  replace hs := hs.callE hq
  refine WL.yes rfl rfl rfl ?_
  refine WL.val rfl (run_bT (run_eql rfl rfl) (by decide)) ?_
  refine WL.val rfl (run_pickT rfl) ?_
  refine WL.val rfl (run_assign) ?_
  refine WL.nil ?_
  refine CW.ret ?_
  refine fin_ret1 rfl ?_
  exact ⟨rfl, hs.clear⟩
end
end Go.Gx
/-! Lw3 -/
namespace Go.Gx
open Go.Proofs
set_option linter.unusedVariables false
set_option linter.unusedSimpArgs false
set_option maxRecDepth 100000
theorem fits_front {x : List UInt8} {k : Nat} (h1 : 1 ≤ k) (h2 : k ≤ 32) : fitsL (frontL x k) k = true := by
  unfold fitsL
  rw [decide_eq_true_eq]
  refine ⟨by omega, by omega, ?_⟩
  rw [Int.toNat_natCast]
  unfold frontL cutD
  have h : ((shaL x).take k).length = k := by rw [List.length_take, shaL_len]; omega
  rw [List.take_append_of_le_length (by rw [h]; exact Nat.le_refl _), List.take_of_length_le (by rw [h]; exact Nat.le_refl _)]
attribute [local irreducible] shaL cutD frontL
theorem find_one (d x : List UInt8) (st : Nat) : findX d [⟨d, x, st⟩] = some ⟨d, x, st⟩ := by simp [findX]
theorem lay_k {s s' : AS} {d x : List UInt8} (h : s.lay d x = some s') : s'.k = s.k := by
  unfold AS.lay at h
  split at h
  · obtain rfl := (Option.some.inj h).symm; rfl
  · cases h
theorem put_k (s : AS) (y : List UInt8) : (s.put y).2.2.k = s.k := by
  have hgo : ∀ r : List UInt8 × Nat × AS, r = (match ({ s with puts := s.puts + 1 } : AS).lay (frontL y s.k) y with | some s2 => (frontL y s.k, 0, s2) | none => (zD, 43, { s with puts := s.puts + 1 })) → r.2.2.k = s.k := by
    intro r hr
    cases hl : ({ s with puts := s.puts + 1 } : AS).lay (frontL y s.k) y with
    | none => rw [hl] at hr; rw [hr]
    | some s2 => rw [hl] at hr; subst hr; exact (lay_k hl).trans rfl
  unfold AS.put
  simp only
  split
  · rfl
  · split
    · split
      · rfl
      · split
        · rfl
        · exact hgo _ rfl
    · exact hgo _ rfl
theorem fresh_spec {a c : Int} (ha : -9223372036854775808 ≤ a ∧ a ≤ 9223372036854775807) (hc : -9223372036854775808 ≤ c ∧ c ≤ 9223372036854775807) (w0 : World) : Calls Try.prog 11 #[.int .i64 a, .int .i64 c] w0 fun e w' => ∃ bs L', e = .returned (.pointer (some ⟨bs, 0, none⟩)) ∧ PRep bs (newS (1 + roundZ a 32) (roundZ c 67108865)) [] L' ∧ Step [] L' w0 w' := by
  have hs : Step [] [] w0 w0 := Step.refl w0
  have h1 := roundZ_lt (a := a) (n := 32) (by decide)
  have h2 := roundZ_lt (a := c) (n := 67108865) (by decide)
  have hnew := fun w => new_abs (k := 1 + roundZ a 32) (c := roundZ c 67108865) (by omega) (by omega) (by omega) w
  refine calls (n := 19) Try.func11 rfl rfl rfl ?_
  refine CW.seq ?_
  refine CW.reg ?_
  refine WL.val rfl (run_assign) ?_
  refine WL.nil ?_
  refine CW.seq ?_
  refine CW.reg ?_
  refine WL.val rfl (run_move) ?_
  refine WL.enter rfl (run_call en24 rfl rfl) (roundL_spec (n := 32) (by decide) (by decide) ha _) ?_
  rintro e w ⟨rfl, hq⟩
  refine ⟨_, rfl, ?_⟩
  replace hs := hs.callE hq
  refine WL.val rfl (run_add (c := ((1 + roundZ a 32 : Nat) : Int)) rfl rfl (by omega) (by omega)) ?_
  refine WL.val rfl (run_move) ?_
  refine WL.enter rfl (run_call en24 rfl rfl) (roundL_spec (n := 67108865) (by decide) (by decide) hc _) ?_
  rintro e w ⟨rfl, hq⟩
  refine ⟨_, rfl, ?_⟩
  replace hs := hs.callE hq
  refine WL.enter rfl (run_call en20 rfl rfl) (hnew _) ?_
  rintro e w ⟨bs, L1, rfl, hR, hq⟩
  refine ⟨_, rfl, ?_⟩
  replace hs := hs.callAll0 hq
  refine WL.val rfl (run_move) ?_
  refine WL.val rfl (run_extract rfl rfl) ?_
  refine WL.val rfl (run_extract rfl rfl) ?_
  refine WL.val rfl (run_assign) ?_
  refine WL.val rfl (run_assign) ?_
  refine WL.nil ?_
  refine CW.seq <| CW.seq ?_
  refine CW.reg ?_
  refine WL.val rfl (run_move) ?_
  refine WL.val rfl (run_bF (run_neq rfl rfl) (by decide)) ?_
  refine WL.nil ?_
  refine CW.cond rfl (fun h => ?_) (fun h => ?_)
  · cases h
  repeat (first | refine CW.seq ?_ | refine CW.skip ?_)
  refine CW.reg ?_
  refine WL.val rfl (run_move) ?_
  refine WL.val rfl (run_assign) ?_
  refine WL.nil ?_
  refine CW.ret ?_
  refine fin_ret1 rfl ?_
  exact ⟨bs, L1, rfl, hR, hs⟩
section
variable {S : List Nat} {A L L' D D' Lv : List (Nat × Obj)} {w0 w w' : World}
theorem Own.live (hs : Step S (A ++ (L ++ D)) w0 w) : Lives (L ++ D) w := Lives.of (L2 := []) (by rw [List.append_nil]; exact hs.dropL)
theorem Own.put (hs : Step S (A ++ (L ++ D)) w0 w) (hq : Step (L.map (·.1)) (L' ++ D') w w') : Step S (A ++ (L' ++ (D' ++ D))) w0 w' := by
  have h1 : Step S (L ++ (D ++ A)) w0 w := by
    have := hs.append_comm
    rwa [List.append_assoc] at this
  have h2 := Step.call (L1 := L) h1 hq
  have h3 : Step S ((L' ++ (D' ++ D)) ++ A) w0 w' := by
    have e : L' ++ D' ++ (D ++ A) = (L' ++ (D' ++ D)) ++ A := by simp [List.append_assoc]
    rwa [e] at h2
  exact h3.append_comm
theorem Own.set (hs : Step S (A ++ (L ++ D)) w0 w) (hq : Step (L.map (·.1)) L' w w') : Step S (A ++ (L' ++ D)) w0 w' := by
  have := Own.put (D' := []) hs (by rw [List.append_nil]; exact hq)
  simpa using this
theorem Own.keep (hs : Step S (A ++ (L ++ D)) w0 w) (hq : Step [] Lv w w') : Step S (A ++ (L ++ (Lv ++ D))) w0 w' := by
  have h := Step.call0 hs hq
  exact h.perm (by
    have h1 : (Lv ++ (A ++ (L ++ D))).Perm ((A ++ L) ++ (Lv ++ D)) := by
      have h2 : (Lv ++ (A ++ L)).Perm ((A ++ L) ++ Lv) := List.perm_append_comm
      have h3 := h2.append_right D
      simpa [List.append_assoc] using h3
    simpa [List.append_assoc] using h1)
theorem Own.intoD (hs : Step S (Lv ++ (A ++ (L ++ D))) w0 w) : Step S (A ++ (L ++ (Lv ++ D))) w0 w := hs.perm (by
    have h1 : (Lv ++ (A ++ (L ++ D))).Perm ((A ++ L) ++ (Lv ++ D)) := by
      have h2 : (Lv ++ (A ++ L)).Perm ((A ++ L) ++ Lv) := List.perm_append_comm
      have h3 := h2.append_right D
      simpa [List.append_assoc] using h3
    simpa [List.append_assoc] using h1)
theorem Own.outside (hs : Step S (A ++ (L ++ D)) w0 w) {v : Value} {x : List UInt8} (h : Held D v x) : Outside v (L.map (·.1)) := by
  refine h.out fun p hp hm => ?_
  have hn := Step.nodup hs.dropL
  rw [List.map_append, List.nodup_append] at hn
  exact hn.2.2 _ hm _ (List.mem_map_of_mem hp) rfl
theorem Own.sl (hs : Step S (A ++ (L ++ D)) w0 w) {v : Value} {x : List UInt8} (h : Held D v x) : Sl w 1 v x.length (u8s x) := h.sl fun p hp => hs.has p (by simp [hp])
/-- Old blocks are none of the Store's new ones. -/
theorem Own.old (hs : Step [] (A ++ (L ++ D)) w0 w) {v : Value} {y : List UInt8} (h : Sl w0 1 v y.length (u8s y)) : OutE v y (L.map (·.1)) := by
  obtain ⟨hl, ⟨a, c, rfl, h0⟩ | ⟨b, off, c, rfl, hat⟩⟩ := h
  · exact .inl (List.eq_nil_of_length_eq_zero h0)
  · by_cases hy : y = []
    · exact .inl hy
    · refine .inr fun hm => ?_
      have hb := hat.lt (by simpa [u8s] using hy)
      have hobt := List.mem_map.1 hm
      obtain ⟨p, hp, hpe⟩ := hobt
      rcases hs.new p (by simp [hp]) with h1 | h1
      · cases h1
      · have : p.1 = b := hpe
        omega
end
theorem findX_ins {b : Blb} {X : List Blb} (h : SortedX X) : findX b.d (insX b X) = some b := by
  have h1 := insX_sorted b h
  exact findX_mem h1.nodup ((insX_perm b h).mem_iff.2 (by simp))
theorem AS.put_get {s : AS} (ok : s.Ok) {y : List UInt8} (h : (s.put y).2.1 = 0) : (s.put y).1 = frontL y s.k ∧ (s.put y).2.2.get (frontL y s.k) = (y, 0) := by
  have hgo : ∀ r : List UInt8 × Nat × AS, r = (match ({ s with puts := s.puts + 1 } : AS).lay (frontL y s.k) y with | some s2 => (frontL y s.k, 0, s2) | none => (zD, 43, { s with puts := s.puts + 1 })) → r.2.1 = 0 → r.1 = frontL y s.k ∧ r.2.2.get (frontL y s.k) = (y, 0) := by
    intro r hr h0
    cases hl : ({ s with puts := s.puts + 1 } : AS).lay (frontL y s.k) y with
    | none => rw [hl] at hr; rw [hr] at h0; cases h0
    | some s2 =>
      rw [hl] at hr
      subst hr
      refine ⟨rfl, ?_⟩
      unfold AS.lay at hl
      split at hl
      · obtain rfl := (Option.some.inj hl).symm
        have hf := findX_ins (b := ⟨frontL y s.k, y, s.last + 1⟩) ok.sorted
        unfold AS.get
        simp only at hf ⊢
        rw [hf]
        simp
      · cases hl
  unfold AS.put at h ⊢
  simp only at h ⊢
  by_cases hlong : 1048576 < y.length
  · rw [if_pos hlong] at h; cases h
  · rw [if_neg hlong] at h ⊢
    cases hf : findX (frontL y s.k) s.X with
    | none => rw [hf] at h; exact hgo _ rfl h
    | some b =>
      rw [hf] at h
      simp only at h ⊢
      by_cases hxy : b.x = y
      · rw [if_pos hxy] at h ⊢
        refine ⟨rfl, ?_⟩
        unfold AS.get
        simp only [hf, hxy, if_true]
      · rw [if_neg hxy] at h ⊢
        by_cases hcl : frontL b.x s.k = frontL y s.k
        · rw [if_pos hcl] at h; cases h
        · rw [if_neg hcl] at h ⊢
          exact hgo _ rfl h
end Go.Gx
/-! CFrame -/
namespace Go.Gx
open Go.Proofs Go.ChangeShapes Go.WideShapes Go.ChangeAt Go.RowKit Go.Deep
open Go.Proofs.Ytakhjiecinpmiaa (Rows.uptoBulk Rows.uptoBulkAll)
set_option linter.unusedVariables false
set_option linter.unusedSimpArgs false
set_option maxRecDepth 100000
theorem Step.below {L : List (Nat × Obj)} {w w' : World} (h : Step [] L w w') : Below w.heap.size w w' :=
  ⟨h.chg.os, h.chg.tape, h.chg.output, h.chg.size, fun k hk => h.chg.block k hk (by simp)⟩
section
variable {H : Type}
theorem bulk_pos : ∀ d : DataW H, 1 ≤ Rows.uptoBulk d
  | .lit x => by cases x <;> simp [Rows.uptoBulk]
  | .nil => by simp [Rows.uptoBulk]
  | .ptr d => by simp [Rows.uptoBulk]
  | .slice a b => by simp [Rows.uptoBulk]
  | .agg a => by simp [Rows.uptoBulk]
  | .iface _ d => by simp [Rows.uptoBulk]
  | .map a => by simp [Rows.uptoBulk]
  | .held _ => by simp [Rows.uptoBulk]
theorem bulk_len : ∀ l : List (DataW H), l.length ≤ Rows.uptoBulkAll l
  | [] => by simp [Rows.uptoBulkAll]
  | d :: l => by
    have h1 := bulk_pos d
    have h2 := bulk_len l
    simp only [Rows.uptoBulkAll, List.length_cons]
    omega
theorem bulk_mem : ∀ {l : List (DataW H)} {d : DataW H}, d ∈ l → Rows.uptoBulk d ≤ Rows.uptoBulkAll l
  | x :: l, d, h => by
    simp only [Rows.uptoBulkAll]
    rcases List.mem_cons.1 h with rfl | h
    · omega
    · have := bulk_mem h; omega
end
theorem mapM_get {α β : Type} {f : α → Option β} : ∀ {l : List α} {r : List β}, l.mapM f = some r → r.length = l.length ∧ ∀ (i : Nat) (h : i < l.length), f l[i] = r[i]?
  | [], r, h => by
    simp at h
    subst h
    exact ⟨rfl, fun i h => by simp at h⟩
  | x :: l, r, h => by
    rw [List.mapM_cons] at h
    cases hx : f x with
    | none => rw [hx] at h; cases h
    | some y =>
      cases hl : l.mapM f with
      | none => rw [hx, hl] at h; cases h
      | some ys =>
        rw [hx, hl] at h
        obtain rfl : y :: ys = r := by simpa using h
        have hobt := mapM_get hl
        obtain ⟨h1, h2⟩ := hobt
        refine ⟨by simp [h1], fun i hi => ?_⟩
        cases i with
        | zero => simpa using hx
        | succ i => simpa using h2 i (by simpa using hi)
theorem At.cells {w : World} {base b off n : Nat} {cs : List Value} (h : w.cells? base ⟨b, off, none⟩ n = some cs) : cs.length = n ∧ At w b off cs := by
  unfold World.cells? at h
  split at h
  · have hobt := mapM_get h
    obtain ⟨h1, h2⟩ := hobt
    rw [List.length_range] at h1
    refine ⟨h1, fun j v hj => ?_⟩
    have hlt : j < n := by
      rw [← h1]
      exact (List.getElem?_eq_some_iff.1 hj).1
    have := h2 j (by simpa using hlt)
    rw [List.getElem_range, hj, add_off] at this
    exact this
  · cases h
section
variable {H : Type} {enc : TypeId × Value → H} {w : World} {spare : Nat → Bool} {held : Bool}
theorem trodAll_stays {P : Program} (hl : laidOutB P = true) {W W' : World} (hb : Below W.heap.size W W') : ∀ {ts : List TypeId} {vs : List Value} {ds : List (DataW H)} {p : List MemPlace},
    DataW.TrodAll enc P W 0 (fun _ => true) true ts vs ds p → (∀ x ∈ p, x.block < W.heap.size) → (∀ t ∈ ts, P.readableRec t = true ∧ t < P.types.size) → DataW.TrodAll enc P W' 0 (fun b => decide (b < W.heap.size)) true ts vs ds p
  | [], vs, ds, p, h, _, _ => by
    have hobt := trodAll_nil h
    obtain ⟨rfl, rfl, rfl⟩ := hobt
    exact trodAll_mk0
  | t :: ts, vs, ds, p, h, hlt, hr => by
    have hobt := trodAll_cons h
    obtain ⟨v, vs', d, ds', p', q, rfl, rfl, rfl, h0, h1⟩ := hobt
    exact trodAll_cons_mk (Below.trod hl (hr t (by simp)).1 (hr t (by simp)).2 h0 hb (fun x hx => hlt x (by simp [hx]))) (trodAll_stays hl hb h1 (fun x hx => hlt x (by simp [hx])) (fun t ht => hr t (by simp [ht])))
theorem open_i64 {v : Value} {d : DataW H} {ps : List MemPlace} {r : Reach} {b0 : Nat} {base : Nat} (hval : Value.okWide Try.prog w r b0 3 v) (h : DataW.Trod enc Try.prog w base spare held 3 v d ps) : ∃ n : Int, v = .int .i64 n ∧ -9223372036854775808 ≤ n ∧ n ≤ 9223372036854775807 := by
  have hobt := open_int Try.underlying3 hval h
  obtain ⟨n, rfl, _, _, hw⟩ := hobt
  simp only [Lit.wf, Bool.and_eq_true, decide_eq_true_eq] at hw
  have h0 : (IntKind.i64).min = -9223372036854775808 := by decide
  have h255 : (IntKind.i64).max = 9223372036854775807 := by decide
  rw [h0, h255] at hw
  exact ⟨n, rfl, hw.1, hw.2⟩
theorem open_b {v : Value} {d : DataW H} {ps : List MemPlace} {r : Reach} {b0 : Nat} {base : Nat} (hval : Value.okWide Try.prog w r b0 4 v) (h : DataW.Trod enc Try.prog w base spare held 4 v d ps) : ∃ b : Bool, v = .bool b := by
  have hobt := open_bool Try.underlying4 hval h
  obtain ⟨n, rfl, _⟩ := hobt
  exact ⟨n, rfl⟩
theorem At.join {w : World} {b : Nat} {vs : List Value} (off : Nat) (h : ∀ i v, vs[i]? = some v → w.cell? ⟨b, off + i, none⟩ = some v) : At w b off vs := h
/-- An argument of bytes, opened. -/
theorem open_bytes {v : Value} {d : DataW H} {ps : List MemPlace} {r : Reach} {b0 : Nat} (hval : Value.okWide Try.prog w r b0 22 v) (h : DataW.Trod enc Try.prog w 0 spare held 22 v d ps) : ∃ s : List UInt8, Sl w 1 v s.length (u8s s) ∧ Room v ∧ s.length ≤ 9223372036854775807 ∧ (Rows.uptoBulk d ≤ 1048576 → s.length ≤ 1048576) := by
  obtain ⟨fuel, h⟩ := h
  have hobt := okWide_slice Try.underlying22 hval
  obtain ⟨a0, len, cap, rfl⟩ := hobt
  have hc1 : Try.prog.cellsOf 5 = 1 := ty5.cellsOf
  rcases ChangeShapes.open_ints (k := .u8) Try.underlying22 Try.underlying5 hc1 h with ⟨hc, _⟩ | ⟨a, len', cap', zs, hc, _, hlc, hcm, hm, hx, hi, hwf⟩
  · have : Value.slice a0 len cap = .slice none 0 0 := by simpa [Value.cells] using hc
    cases this
    exact ⟨[], Sl.nil _ _ _, Nat.le_refl 0, by simp, fun _ => by simp⟩
  · have : Value.slice a0 len cap = .slice (some a) len' cap' := by simpa [Value.cells] using hc
    cases this
    have hspot : a.spot = none := by
      simp only [Value.okWide, Try.underlying22, Cell.okWide, Cell.ok] at hval
      exact hval.2.2.2.1
    obtain ⟨b, off, sp⟩ := a
    simp only at hspot
    subst hspot
    have hle : len ≤ zs.length := by rw [hm]; split <;> omega
    have hd : d = _ := congrArg Prod.fst hx
    have hmx : maxLen = 9223372036854775807 := by decide
    have hlen := bulk_len (H := H) (lits .u8 (zs.take len))
    have hll : (lits (H := H) .u8 (zs.take len)).length = len := by simp [lits]; omega
    have hval8 : ∀ n ∈ zs, ∃ c : UInt8, n = c.toNat := fun n hn => by
      have hw := hwf n hn
      simp only [Lit.wf, Bool.and_eq_true, decide_eq_true_eq] at hw
      have h0 : (IntKind.u8).min = 0 := by decide
      have h255 : (IntKind.u8).max = 255 := by decide
      rw [h0, h255] at hw
      refine ⟨UInt8.ofNat n.toNat, ?_⟩
      rw [UInt8.toNat_ofNat_of_lt' (show n.toNat < 256 by omega)]
      omega
    have hu : ((zs.take len).map fun n => Value.int .u8 n) = u8s ((zs.take len).map fun n => UInt8.ofNat n.toNat) := by
      unfold u8s
      rw [List.map_map]
      apply List.map_congr_left
      intro n hn
      have hobt := hval8 n (List.mem_of_mem_take hn)
      obtain ⟨c, rfl⟩ := hobt
      simp
    refine ⟨(zs.take len).map fun n => UInt8.ofNat n.toNat, ?_, hlc, by simp; omega, fun hb => by rw [hd] at hb; simp only [Rows.uptoBulk] at hb; simp; omega⟩
    have hl2 : ((zs.take len).map fun n => UInt8.ofNat n.toNat).length = len := by simp; omega
    rw [hl2]
    refine .mk (by simp [u8s]; omega) ?_
    rw [← hu]
    intro j v hj
    rw [List.getElem?_map] at hj
    cases hz : (zs.take len)[j]? with
    | none => rw [hz] at hj; cases hj
    | some n =>
      rw [hz] at hj
      obtain rfl : Value.int .u8 n = v := by simpa using hj
      have hjl : j < len := by
        have := (List.getElem?_eq_some_iff.1 hz).1
        simp at this
        omega
      have h2 := hi j (by omega)
      rw [add_off] at h2
      rw [h2]
      rw [List.getElem?_take, if_pos hjl] at hz
      simp [List.getD, hz]
theorem open_u8 {v : Value} {d : DataW H} {ps : List MemPlace} {r : Reach} {b0 : Nat} {base : Nat} (hval : Value.okWide Try.prog w r b0 5 v) (h : DataW.Trod enc Try.prog w base spare held 5 v d ps) : ∃ n : UInt8, v = .int .u8 n.toNat := by
  have hobt := open_int Try.underlying5 hval h
  obtain ⟨n, rfl, _, _, hw⟩ := hobt
  simp only [Lit.wf, Bool.and_eq_true, decide_eq_true_eq] at hw
  have h0 : (IntKind.u8).min = 0 := by decide
  have h255 : (IntKind.u8).max = 255 := by decide
  rw [h0, h255] at hw
  refine ⟨UInt8.ofNat n.toNat, ?_⟩
  have e : ((UInt8.ofNat n.toNat).toNat : Int) = n := by rw [UInt8.toNat_ofNat']; omega
  rw [e]
end
end Go.Gx
