/- CasBig, walked. CasBigSaid: a blob as long as may be, and a longer one, in a Store that has just room for it and in one that has not: the law returns true, the arguments read as they did; no condition. -/
import Derived.Test.YtakhjiecinpmiaaM6
/-! Big -/
namespace Go.Gx
open Go.Proofs
set_option linter.unusedVariables false
set_option linter.unusedSimpArgs false
set_option maxRecDepth 100000
attribute [local irreducible] shaL cutD frontL
section
variable {S : List Nat} {A L L' Lt D D' Lv : List (Nat × Obj)} {w0 w w' : World}
theorem Own.swap (hs : Step S (A ++ (L ++ (Lt ++ D))) w0 w) : Step S (A ++ (Lt ++ (L ++ D))) w0 w := hs.perm (by
  have h : (L ++ Lt ++ D).Perm (Lt ++ L ++ D) := List.perm_append_comm.append_right D
  simpa [List.append_assoc] using h.append_left A)
theorem Own.put2 (hs : Step S (A ++ (L ++ (Lt ++ D))) w0 w) (hq : Step (L.map (·.1)) (L' ++ D') w w') : Step S (A ++ (L' ++ (Lt ++ (D' ++ D)))) w0 w' := by
  have h := Own.put hs hq
  exact h.perm (by
    have h1 : (D' ++ Lt ++ D).Perm (Lt ++ D' ++ D) := List.perm_append_comm.append_right D
    have h2 := (h1.append_left L').append_left A
    simpa [List.append_assoc] using h2)
end
theorem Lives.sub {L L2 : List (Nat × Obj)} {w : World} (h : Lives L w) (hs : L2.Sublist L) : Lives L2 w :=
  Step.own (L1 := L2) (L := []) (by
    rw [List.append_nil]
    exact (⟨h.chg, (h.nodup).sublist (hs.map _), fun p hp => h.has p (hs.subset hp), fun p hp => h.new p (hs.subset hp)⟩ : Step (L.map (·.1)) L2 w w))
theorem sub2 {α : Type} {L X D Y : List α} : (L ++ (D ++ [])).Sublist (L ++ (X ++ (D ++ Y))) := (List.Sublist.refl _).append (((List.Sublist.refl _).append (List.nil_sublist _)).trans (List.sublist_append_right _ _))
theorem sub3 {α : Type} {L X D Y Z : List α} : (L ++ (D ++ [])).Sublist (L ++ (X ++ (Z ++ (D ++ Y)))) := (List.Sublist.refl _).append (((List.Sublist.refl _).append (List.nil_sublist _)).trans ((List.sublist_append_right _ _).trans (List.sublist_append_right _ _)))
theorem sub4 {α : Type} {L X D Y Z W : List α} : (L ++ (D ++ [])).Sublist (L ++ (X ++ (Z ++ (W ++ (D ++ Y))))) := (List.Sublist.refl _).append (((List.Sublist.refl _).append (List.nil_sublist _)).trans ((List.sublist_append_right _ _).trans ((List.sublist_append_right _ _).trans (List.sublist_append_right _ _))))
theorem perm_nb {α : Type} {A B : List α} {x : α} : (B ++ (A ++ [x])).Perm ([x] ++ (A ++ (B ++ []))) := by
  have h1 : ((B ++ A) ++ [x]).Perm ([x] ++ (B ++ A)) := List.perm_append_comm
  have h2 : ([x] ++ (B ++ A)).Perm ([x] ++ (A ++ B)) := List.perm_append_comm.append_left _
  simpa [List.append_assoc] using h1.trans h2
theorem Own.outA {S : List Nat} {A L D : List (Nat × Obj)} {w0 w : World} (hs : Step S (A ++ (L ++ D)) w0 w) {b : Nat} {o : Obj} (hm : (b, o) ∈ A) : b ∉ L.map (·.1) := fun h => by
  have hn := Step.nodup hs
  rw [List.map_append, List.nodup_append] at hn
  exact hn.2.2 b (List.mem_map.2 ⟨(b, o), hm, rfl⟩) b (by rw [List.map_append]; exact List.mem_append_left _ h) rfl
theorem Own.regroup {S : List Nat} {A L X Y Z L2 D : List (Nat × Obj)} {w0 w : World} (hs : Step S (A ++ (L ++ (X ++ (Y ++ (Z ++ (L2 ++ D)))))) w0 w) : Step S ((A ++ (L ++ (X ++ (Y ++ Z)))) ++ (L2 ++ D)) w0 w := by simpa only [List.append_assoc] using hs
theorem digest_abs' {bs : Nat} {s : AS} {D L : List (Nat × Obj)} {w0 : World} {v : Value} {y : List UInt8} (hR : PRep bs s D L) (ok : s.Ok) (hw : Lives L w0) (hy : Sl w0 1 v y.length (u8s y)) (hr : Room v) (hsy : y.length < 1099511627776) : Calls Try.prog 25 #[.pointer (some ⟨bs, 0, none⟩), v] w0 (Ret0 (.agg (u8s (frontL y s.k)).toArray) w0) := by
  obtain ⟨m, clock, M, X', rfl, h2, h3, h4⟩ := hR
  have hb := hw.has (bs, blk 83 (stC s.k s.cap (usedX s.X) s.last m s.gets s.puts)) (by simp)
  exact digest_spec w0 (by rw [cell_blk hb]; rfl) hy hr hsy ok.k1 ok.k2
/-- A list of bytes, one of them changed. -/
theorem u8s_setB (y : List UInt8) (i : Nat) (x : UInt8) : (u8s y).set i (.int .u8 x.toNat) = u8s (y.set i x) := by simp [u8s, List.map_set]
theorem big_put {y : List UInt8} (hy : y.length = 1048576) : (newS 32 1048608).put y = (frontL y 32, 0, ⟨32, 1048608, 1, 0, 1, [⟨frontL y 32, y, 1⟩]⟩) := by
  unfold AS.put
  simp only [newS, findX, List.find?_nil, AS.lay, insX, usedX, List.map_cons, List.map_nil, List.sum_cons, List.sum_nil]
  rw [if_neg (by omega), if_pos (by omega)]
theorem big_put2 {y : List UInt8} (hy : y.length = 1048576) : (newS 32 1048607).put y = (zD, 43, ⟨32, 1048607, 0, 0, 1, []⟩) := by
  unfold AS.put
  simp only [newS, findX, List.find?_nil, AS.lay, insX, usedX, List.map_cons, List.map_nil, List.sum_cons, List.sum_nil]
  rw [if_neg (by omega), if_neg (by omega)]
theorem long_put (s : AS) {y : List UInt8} (hy : 1048576 < y.length) : s.put y = (zD, 2, ⟨s.k, s.cap, s.last, s.gets, s.puts + 1, s.X⟩) := by
  unfold AS.put
  simp only
  rw [if_pos hy]
theorem long_plant (s : AS) {d y : List UInt8} (hf : fitsL d s.k = true) (hy : 1048576 < y.length) : s.plant d y = (2, s) := by
  unfold AS.plant
  rw [if_neg (by rw [hf]; simp), if_pos hy]
theorem small_plant {d y : List UInt8} (hf : fitsL d 32 = true) (hy : y.length < 1048576) : ((⟨32, 1048607, 0, 0, 1, []⟩ : AS).plant d y).1 = 0 := by
  unfold AS.plant
  simp only [AS.lay, insX, usedX, List.map_cons, List.map_nil, List.sum_cons, List.sum_nil]
  rw [if_neg (by intro h; exact absurd (hf.symm.trans h) (by simp)), if_neg (by omega), if_pos (by omega)]
def d1 : List UInt8 := 1 :: List.replicate 31 0
theorem d1_len : d1.length = 32 := by simp [d1]
theorem bld_d1 (w : World) : (Instr.build 27 #[(0, .int .u8 1)]).run Try.prog w = .ok (.agg (u8s d1).toArray) w := by kernel_rfl
theorem fits_d1 : fitsL d1 32 = true := by
  unfold fitsL
  rw [decide_eq_true_eq]
  refine ⟨by decide, by decide, ?_⟩
  show cutD d1 32 = d1
  unfold cutD
  rw [List.take_of_length_le (by rw [d1_len]; exact Nat.le_refl _)]
  simp
set_option maxHeartbeats 4000000 in
theorem big_spec {more : Int} (hm : -9223372036854775808 ≤ more ∧ more ≤ 9223372036854775807) (x : UInt8) (w0 : World) :
    Calls Try.prog 4 #[.int .u8 x.toNat, .int .i64 more] w0 (Ret0 (.bool true) w0) := by
  have hs : Step [] [] w0 w0 := Step.refl w0
  have hnew1 := fun w1 => new_abs (k := 32) (c := 1048608) (by decide) (by decide) (by decide) w1
  have hnew2 := fun w1 => new_abs (k := 32) (c := 1048607) (by decide) (by decide) (by decide) w1
  have hr1 := roundZ_lt (a := more) (n := 1048576) (by decide)
  refine calls (n := 143) Try.func4 rfl rfl rfl ?_
  repeat (first | refine CW.seq ?_ | refine CW.block ?_ | refine CW.skip ?_ | refine CW.label ?_ | refine CW.exit ?_ | refine CW.condT rfl ?_ | refine CW.condF rfl ?_)
  refine CW.reg ?_
  refine WL.val rfl (run_assign) ?_
  refine WL.nil ?_
  repeat (first | refine CW.seq ?_ | refine CW.block ?_ | refine CW.skip ?_ | refine CW.label ?_ | refine CW.exit ?_ | refine CW.condT rfl ?_ | refine CW.condF rfl ?_)
  refine CW.reg ?_
  refine WL.makeSlice (k := 1048576) Try.underlying22 ty5 rfl (by omega) (by omega) rfl rfl rfl hs (fun b22 w hs => ?_)
  refine WL.val rfl (run_assign) ?_
  refine WL.nil ?_
  have hobt : ∃ N : Nat, N = 1048576 := ⟨_, rfl⟩
  obtain ⟨N, hN⟩ := hobt
  have hz : ((List.replicate 1048576 [Value.int .u8 0]).flatten) = u8s (List.replicate 1048576 0) := by rw [flat_rep, u8s, List.map_replicate]; rfl
  rw [hz] at hs
  have hl0 : (List.replicate 1048576 (0 : UInt8)).length = 1048576 := List.length_replicate
  generalize List.replicate 1048576 (0 : UInt8) = y0 at hs hl0
  repeat (first | refine CW.seq ?_ | refine CW.block ?_ | refine CW.skip ?_ | refine CW.label ?_ | refine CW.exit ?_ | refine CW.condT rfl ?_ | refine CW.condF rfl ?_)
  refine CW.reg ?_
  refine WL.val rfl (run_assign) ?_
  refine WL.nil ?_
  repeat (first | refine CW.seq ?_ | refine CW.block ?_ | refine CW.skip ?_ | refine CW.label ?_ | refine CW.exit ?_ | refine CW.condT rfl ?_ | refine CW.condF rfl ?_)
  refine CW.loop (fun m f w' => ∃ i y, y.length = 1048576 ∧ m = 1048576 + 4093 - i ∧ i ≤ 1048576 + 4092 ∧ Step [] [(b22, blk 5 (u8s y))] w0 w' ∧ Holds f [(0, .int .u8 x.toNat), (1, .int .i64 more), (5, .slice (some ⟨b22, 0, none⟩) 1048576 1048576), (6, .int .i64 (i : Nat))]) (m := 1048576 + 4093) ?_ ?_
  · exact ⟨0, y0, hl0, rfl, by omega, hs, rfl, rfl, rfl, rfl, trivial⟩
  · rintro m f w ⟨i, y, hy, rfl, hi, hs, hf⟩
    have hobt := hf.chain
    obtain ⟨g, rfl⟩ := hobt
    by_cases hlt : i < 1048576
    · repeat (first | refine CW.seq ?_ | refine CW.block ?_ | refine CW.skip ?_ | refine CW.label ?_ | refine CW.exit ?_ | refine CW.condT rfl ?_ | refine CW.condF rfl ?_)
      refine CW.reg ?_
      refine WL.val rfl (run_move) ?_
      refine WL.val rfl (run_move) ?_
      refine WL.val rfl (run_lenSl Try.underlying22 rfl) ?_
      refine WL.val rfl (run_bT (run_lss rfl rfl) (by omega)) ?_
      refine WL.nil ?_
      repeat (first | refine CW.seq ?_ | refine CW.block ?_ | refine CW.skip ?_ | refine CW.label ?_ | refine CW.exit ?_)
      first | refine CW.condP rfl (fun h => ?_) (fun h => ?_) | refine CW.cond rfl (fun h => ?_) (fun h => ?_)
      · have hul : (u8s y).length = 1048576 := by rw [u8s, List.length_map, hy]
        repeat (first | refine CW.seq ?_ | refine CW.block ?_ | refine CW.skip ?_ | refine CW.label ?_ | refine CW.exit ?_ | refine CW.condT rfl ?_ | refine CW.condF rfl ?_)
        refine CW.reg ?_
        refine WL.val rfl (run_move) ?_
        refine WL.val rfl (run_move) ?_
        refine WL.val rfl (run_move) ?_
        first | refine WL.val rfl (run_ixSlN Try.underlying22 ty5 rfl rfl (by omega)) ?_ | refine WL.val rfl (run_ixSl Try.underlying22 ty5 rfl rfl (by omega)) ?_
        first | refine WL.store1 ty5 rfl rfl (rfl) hs (by first | (simp; done) | omega | (simp only [List.length_append, List.length_replicate, List.length_cons, List.length_nil, List.length_set]; omega) | (simp [Ent.cells, u8s]; done) | exact Nat.le_of_ble_eq_true rfl) (fun w hs => ?_) | refine WL.store1_1 ty5 rfl rfl (rfl) hs (by first | (simp; done) | omega | (simp only [List.length_append, List.length_replicate, List.length_cons, List.length_nil, List.length_set]; omega) | (simp [Ent.cells, u8s]; done) | exact Nat.le_of_ble_eq_true rfl) (fun w hs => ?_) | refine WL.store1_2 ty5 rfl rfl (rfl) hs (by first | (simp; done) | omega | (simp only [List.length_append, List.length_replicate, List.length_cons, List.length_nil, List.length_set]; omega) | (simp [Ent.cells, u8s]; done) | exact Nat.le_of_ble_eq_true rfl) (fun w hs => ?_) | refine WL.store1_3 ty5 rfl rfl (rfl) hs (by first | (simp; done) | omega | (simp only [List.length_append, List.length_replicate, List.length_cons, List.length_nil, List.length_set]; omega) | (simp [Ent.cells, u8s]; done) | exact Nat.le_of_ble_eq_true rfl) (fun w hs => ?_) | refine WL.store1_4 ty5 rfl rfl (rfl) hs (by first | (simp; done) | omega | (simp only [List.length_append, List.length_replicate, List.length_cons, List.length_nil, List.length_set]; omega) | (simp [Ent.cells, u8s]; done) | exact Nat.le_of_ble_eq_true rfl) (fun w hs => ?_) | refine WL.store1 ty5 rfl rfl (rfl) hs (by first | (simp; done) | omega | (simp only [List.length_append, List.length_replicate, List.length_cons, List.length_nil, List.length_set]; omega) | (simp [Ent.cells, u8s]; done) | exact Nat.le_of_ble_eq_true rfl) (fun w hs => ?_)
        refine WL.nil ?_
        replace hs := Step.blkEq (u8s_setB y _ x) hs
        repeat (first | refine CW.seq ?_ | refine CW.block ?_ | refine CW.skip ?_ | refine CW.label ?_ | refine CW.exit ?_ | refine CW.condT rfl ?_ | refine CW.condF rfl ?_)
        refine CW.reg ?_
        refine WL.val rfl (run_move) ?_
        refine WL.val rfl (run_add (c := ((i + 4093 : Nat) : Int)) rfl rfl (by omega) (by omega)) ?_
        refine WL.val rfl (run_assign) ?_
        refine WL.nil ?_
        repeat (first | refine CW.seq ?_ | refine CW.block ?_ | refine CW.skip ?_ | refine CW.label ?_ | refine CW.exit ?_)
        refine (show _ ∧ _ from ⟨rfl, _, ?_, i + 4093, _, (by rw [List.length_set]; exact hy), rfl, by omega, hs, rfl, rfl, rfl, rfl, trivial⟩)
        omega
      · cases h
    · repeat (first | refine CW.seq ?_ | refine CW.block ?_ | refine CW.skip ?_ | refine CW.label ?_ | refine CW.exit ?_ | refine CW.condT rfl ?_ | refine CW.condF rfl ?_)
      refine CW.reg ?_
      refine WL.val rfl (run_move) ?_
      refine WL.val rfl (run_move) ?_
      refine WL.val rfl (run_lenSl Try.underlying22 rfl) ?_
      refine WL.val rfl (run_bF (run_lss rfl rfl) (by omega)) ?_
      refine WL.nil ?_
      repeat (first | refine CW.seq ?_ | refine CW.block ?_ | refine CW.skip ?_ | refine CW.label ?_ | refine CW.exit ?_)
      first | refine CW.condP rfl (fun h => ?_) (fun h => ?_) | refine CW.cond rfl (fun h => ?_) (fun h => ?_)
      · cases h
      clear hlt hi
      have hobt : ∃ d, frontL y 32 = d := ⟨_, rfl⟩
      obtain ⟨dg, hdg⟩ := hobt
      have hd32 : dg.length = 32 := by rw [← hdg]; exact frontL_len (by decide)
      have hdl : (u8s dg).length = 32 := by rw [u8s, List.length_map, hd32]
      have hzl : (u8s zD).length = 32 := by rw [u8s, List.length_map, zD_len]
      have hfit : fitsL dg 32 = true := by rw [← hdg]; exact fits_front (k := 32) (by decide) (by decide)
      have ok1 : (AS.mk 32 1048608 1 0 1 [⟨dg, y, 1⟩]).Ok := by have h := (newS_ok (k := 32) (c := 1048608) (by decide) (by decide) (by decide)).put y; rw [big_put hy, hdg] at h; exact h
      have ok2 : (AS.mk 32 1048607 0 0 1 []).Ok := by have h := (newS_ok (k := 32) (c := 1048607) (by decide) (by decide) (by decide)).put y; rw [big_put2 hy] at h; exact h
      have hput1 := fun {bs L D v w1} (hR : PRep bs (newS 32 1048608) D L) hl h1 h2 h3 => put_abs (v := v) (y := y) (n := 0) (w0 := w1) hR (newS_ok (by decide) (by decide) (by decide)) newS_few (by decide) hl h1 h2 h3 (by omega)
      have hput2 := fun {bs L D v w1} (hR : PRep bs (newS 32 1048607) D L) hl h1 h2 h3 => put_abs (v := v) (y := y) (n := 0) (w0 := w1) hR (newS_ok (by decide) (by decide) (by decide)) newS_few (by decide) hl h1 h2 h3 (by omega)
      simp only [big_put hy, hdg] at hput1
      simp only [big_put2 hy] at hput2
      have husd : usedX (AS.mk 32 1048608 1 0 1 [⟨dg, y, 1⟩]).X = 1048608 := by simp [usedX, hy]
      have hused := fun {bs L D w1} (hR : PRep bs (AS.mk 32 1048608 1 0 1 [⟨dg, y, 1⟩]) D L) (hl : Lives (L ++ D) w1) => used_abs hR ok1 hl
      rw [husd] at hused
      have hget := fun {bs L D w1} (hR : PRep bs (AS.mk 32 1048608 1 0 1 [⟨dg, y, 1⟩]) D L) (hl : Lives (L ++ D) w1) => get_abs (n := 1) hR ok1 ⟨Nat.le_refl _, Nat.zero_le _, Nat.le_refl _⟩ (by decide) hl hd32
      have hgv : (AS.mk 32 1048608 1 0 1 [⟨dg, y, 1⟩]).get dg = (y, 0) := by
        unfold AS.get
        rw [find_one]
        simp only [hdg, if_true]
      rw [hgv] at hget
      replace hs : Step [] ([] ++ [(b22, blk 5 (u8s y))]) w0 w := hs
      repeat (first | refine CW.seq ?_ | refine CW.block ?_ | refine CW.skip ?_ | refine CW.label ?_ | refine CW.exit ?_ | refine CW.condT rfl ?_ | refine CW.condF rfl ?_)
      refine CW.reg ?_
      refine WL.enter rfl (run_call en20 rfl rfl) (hnew1 _) ?_
      rintro e w ⟨bs, L1, rfl, hR, hq⟩
      refine ⟨_, rfl, ?_⟩
      replace hs := Step.call0 hs hq
      refine WL.val rfl (run_move) ?_
      refine WL.val rfl (run_extract rfl rfl) ?_
      refine WL.val rfl (run_extract rfl rfl) ?_
      refine WL.val rfl (run_assign) ?_
      refine WL.val rfl (run_assign) ?_
      refine WL.nil ?_
      repeat (first | refine CW.seq ?_ | refine CW.block ?_ | refine CW.skip ?_ | refine CW.label ?_ | refine CW.exit ?_ | refine CW.condT rfl ?_ | refine CW.condF rfl ?_)
      refine CW.reg ?_
      refine WL.enter rfl (run_call en20 rfl rfl) (hnew2 _) ?_
      rintro e w ⟨bt, L2, rfl, hT, hq⟩
      refine ⟨_, rfl, ?_⟩
      replace hs := (Step.call0 hs hq).perm perm_nb
      refine WL.val rfl (run_move) ?_
      refine WL.val rfl (run_extract rfl rfl) ?_
      refine WL.val rfl (run_extract rfl rfl) ?_
      refine WL.val rfl (run_assign) ?_
      refine WL.val rfl (run_assign) ?_
      refine WL.nil ?_
      repeat (first | refine CW.seq ?_ | refine CW.block ?_ | refine CW.skip ?_ | refine CW.label ?_ | refine CW.exit ?_ | refine CW.condT rfl ?_ | refine CW.condF rfl ?_)
      refine CW.reg ?_
      refine WL.val rfl (run_move) ?_
      refine WL.val rfl (run_bF (run_neq rfl rfl) (by decide)) ?_
      refine WL.val rfl (run_move) ?_
      first | (refine WL.yes rfl rfl rfl ?_; refine WL.val rfl (run_move) ?_) | refine WL.no rfl rfl rfl (.inl rfl) ?_ | refine WL.no rfl rfl rfl (.inr rfl) ?_
      refine WL.yes rfl rfl rfl ?_
      refine WL.val rfl (run_bF (run_neq rfl rfl) (by decide)) ?_
      first | refine WL.val rfl (run_pickT rfl) ?_ | refine WL.val rfl (run_pickF rfl) ?_
      refine WL.val rfl (run_move) ?_
      first | (refine WL.yes rfl rfl rfl ?_; refine WL.val rfl (run_move) ?_) | refine WL.no rfl rfl rfl (.inl rfl) ?_ | refine WL.no rfl rfl rfl (.inr rfl) ?_
      refine WL.yes rfl rfl rfl ?_
      refine WL.val rfl (run_ptrNil Try.underlying24 rfl rfl) ?_
      first | refine WL.val rfl (run_pickT rfl) ?_ | refine WL.val rfl (run_pickF rfl) ?_
      refine WL.val rfl (run_move) ?_
      first | (refine WL.yes rfl rfl rfl ?_; refine WL.val rfl (run_move) ?_) | refine WL.no rfl rfl rfl (.inl rfl) ?_ | refine WL.no rfl rfl rfl (.inr rfl) ?_
      refine WL.yes rfl rfl rfl ?_
      refine WL.val rfl (run_ptrNil Try.underlying24 rfl rfl) ?_
      first | refine WL.val rfl (run_pickT rfl) ?_ | refine WL.val rfl (run_pickF rfl) ?_
      refine WL.nil ?_
      repeat (first | refine CW.seq ?_ | refine CW.block ?_ | refine CW.skip ?_ | refine CW.label ?_ | refine CW.exit ?_)
      first | refine CW.condP rfl (fun h => ?_) (fun h => ?_) | refine CW.cond rfl (fun h => ?_) (fun h => ?_)
      · cases h
      have hyv : ∀ {w1 : World} {X : List (Nat × Obj)} {A : List (Nat × Obj)}, Step [] (A ++ ((b22, blk 5 (u8s y)) :: X)) w0 w1 → Sl w1 1 (.slice (some ⟨b22, 0, none⟩) 1048576 1048576) y.length (u8s y) := fun {w1 X A} h => by rw [hy]; exact .own1 h.dropL (by rw [u8s, List.length_map, hy])
      repeat (first | refine CW.seq ?_ | refine CW.block ?_ | refine CW.skip ?_ | refine CW.label ?_ | refine CW.exit ?_ | refine CW.condT rfl ?_ | refine CW.condF rfl ?_)
      refine CW.reg ?_
      refine WL.val rfl (run_move) ?_
      refine WL.val rfl (run_move) ?_
      refine WL.enter rfl (run_call en12 rfl rfl) (hput1 hR (by rw [List.append_nil]; exact (Own.live (A := [_]) hs).left) (hyv (A := []) hs) (Nat.le_refl _) (.inr (Own.outA (A := [_]) (o := blk 5 (u8s y)) hs (by simp)))) ?_
      rintro e w ⟨L1a, D1, rfl, hR1, hq⟩
      refine ⟨_, rfl, ?_⟩
      replace hs := Own.swap (A := [_]) (Own.put2 (A := [_]) hs hq)
      refine WL.val rfl (run_move) ?_
      refine WL.val rfl (run_extract rfl rfl) ?_
      refine WL.val rfl (run_extract rfl rfl) ?_
      refine WL.alloc ty27 rfl hs (fun b11 w hs => ?_)
      first | refine WL.storeAll ty27 rfl rfl ((hdl)) (Cells1.u8s _) hs (by first | rfl | assumption) (fun w hs => ?_) | refine WL.storeAll_1 ty27 rfl rfl ((hdl)) (Cells1.u8s _) hs (by first | rfl | assumption) (fun w hs => ?_) | refine WL.storeAll_2 ty27 rfl rfl ((hdl)) (Cells1.u8s _) hs (by first | rfl | assumption) (fun w hs => ?_) | refine WL.storeAll_3 ty27 rfl rfl ((hdl)) (Cells1.u8s _) hs (by first | rfl | assumption) (fun w hs => ?_) | refine WL.storeAll_4 ty27 rfl rfl ((hdl)) (Cells1.u8s _) hs (by first | rfl | assumption) (fun w hs => ?_) | refine WL.storeAll ty27 rfl rfl ((hdl)) (Cells1.u8s _) hs (by first | rfl | assumption) (fun w hs => ?_)
      refine WL.val rfl (run_assign) ?_
      refine WL.nil ?_
      repeat (first | refine CW.seq ?_ | refine CW.block ?_ | refine CW.skip ?_ | refine CW.label ?_ | refine CW.exit ?_ | refine CW.condT rfl ?_ | refine CW.condF rfl ?_)
      refine CW.reg ?_
      refine WL.val rfl (run_move) ?_
      refine WL.val rfl (run_move) ?_
      refine WL.enter rfl (run_call en12 rfl rfl) (hput2 hT (by rw [List.append_nil]; exact (Own.live (A := [_, _]) hs).left) (hyv (A := [_]) hs) (Nat.le_refl _) (.inr (Own.outA (A := [_, _]) (o := blk 5 (u8s y)) hs (by simp)))) ?_
      rintro e w ⟨L2a, D2, rfl, hT1, hq⟩
      refine ⟨_, rfl, ?_⟩
      replace hs := Own.put2 (A := [_, _]) hs hq
      refine WL.val rfl (run_move) ?_
      refine WL.val rfl (run_extract rfl rfl) ?_
      refine WL.val rfl (run_extract rfl rfl) ?_
      refine WL.alloc ty27 rfl hs (fun b13 w hs => ?_)
      first | refine WL.storeAll ty27 rfl rfl ((hzl)) (Cells1.u8s _) hs (by first | rfl | assumption) (fun w hs => ?_) | refine WL.storeAll_1 ty27 rfl rfl ((hzl)) (Cells1.u8s _) hs (by first | rfl | assumption) (fun w hs => ?_) | refine WL.storeAll_2 ty27 rfl rfl ((hzl)) (Cells1.u8s _) hs (by first | rfl | assumption) (fun w hs => ?_) | refine WL.storeAll_3 ty27 rfl rfl ((hzl)) (Cells1.u8s _) hs (by first | rfl | assumption) (fun w hs => ?_) | refine WL.storeAll_4 ty27 rfl rfl ((hzl)) (Cells1.u8s _) hs (by first | rfl | assumption) (fun w hs => ?_) | refine WL.storeAll ty27 rfl rfl ((hzl)) (Cells1.u8s _) hs (by first | rfl | assumption) (fun w hs => ?_)
      refine WL.val rfl (run_assign) ?_
      refine WL.nil ?_
      repeat (first | refine CW.seq ?_ | refine CW.block ?_ | refine CW.skip ?_ | refine CW.label ?_ | refine CW.exit ?_ | refine CW.condT rfl ?_ | refine CW.condF rfl ?_)
      refine CW.reg ?_
      refine WL.val rfl (run_move) ?_
      refine WL.val rfl (run_bF (run_neq rfl rfl) (by decide)) ?_
      refine WL.val rfl (run_move) ?_
      first | (refine WL.yes rfl rfl rfl ?_; refine WL.val rfl (run_move) ?_) | refine WL.no rfl rfl rfl (.inl rfl) ?_ | refine WL.no rfl rfl rfl (.inr rfl) ?_
      refine WL.yes rfl rfl rfl ?_
      refine WL.val rfl (run_bF (run_neq rfl rfl) (by decide)) ?_
      first | refine WL.val rfl (run_pickT rfl) ?_ | refine WL.val rfl (run_pickF rfl) ?_
      refine WL.val rfl (run_move) ?_
      first | (refine WL.yes rfl rfl rfl ?_; refine WL.val rfl (run_move) ?_) | refine WL.no rfl rfl rfl (.inl rfl) ?_ | refine WL.no rfl rfl rfl (.inr rfl) ?_
      refine WL.yes rfl rfl rfl ?_
      refine WL.enter rfl (run_call en21 rfl rfl) (len_abs hT1 ok2 ((Own.live (A := [_, _, _]) hs).sub sub2)) ?_
      rintro e w ⟨rfl, hq⟩
      refine ⟨_, rfl, ?_⟩
      replace hs := hs.callE hq
      refine WL.yes rfl rfl rfl ?_
      refine WL.val rfl (run_bF (run_neq rfl rfl) (by decide)) ?_
      first | refine WL.val rfl (run_pickT rfl) ?_ | refine WL.val rfl (run_pickF rfl) ?_
      refine WL.val rfl (run_move) ?_
      first | (refine WL.yes rfl rfl rfl ?_; refine WL.val rfl (run_move) ?_) | refine WL.no rfl rfl rfl (.inl rfl) ?_ | refine WL.no rfl rfl rfl (.inr rfl) ?_
      refine WL.yes rfl rfl rfl ?_
      refine WL.enter rfl (run_call en22 rfl rfl) (hused hR1 ((Own.live (A := [_, _, _]) (Own.swap (A := [_, _, _]) hs)).sub sub3)) ?_
      rintro e w ⟨rfl, hq⟩
      refine ⟨_, rfl, ?_⟩
      replace hs := hs.callE hq
      first | (refine WL.yes rfl rfl rfl ?_; refine WL.val rfl (run_move) ?_) | refine WL.no rfl rfl rfl (.inl rfl) ?_ | refine WL.no rfl rfl rfl (.inr rfl) ?_
      refine WL.yes rfl rfl rfl ?_
      refine WL.enter rfl (run_call en23 rfl rfl) (cap_abs hR1 ok1 ((Own.live (A := [_, _, _]) (Own.swap (A := [_, _, _]) hs)).sub sub3)) ?_
      rintro e w ⟨rfl, hq⟩
      refine ⟨_, rfl, ?_⟩
      replace hs := hs.callE hq
      refine WL.yes rfl rfl rfl ?_
      refine WL.val rfl (run_bF (run_neq rfl rfl) (by exact fun h => h rfl)) ?_
      first | refine WL.val rfl (run_pickT rfl) ?_ | refine WL.val rfl (run_pickF rfl) ?_
      refine WL.nil ?_
      repeat (first | refine CW.seq ?_ | refine CW.block ?_ | refine CW.skip ?_ | refine CW.label ?_ | refine CW.exit ?_)
      first | refine CW.condP rfl (fun h => ?_) (fun h => ?_) | refine CW.cond rfl (fun h => ?_) (fun h => ?_)
      · cases h
      replace hs := Own.swap (A := [_, _, _]) hs
      repeat (first | refine CW.seq ?_ | refine CW.block ?_ | refine CW.skip ?_ | refine CW.label ?_ | refine CW.exit ?_ | refine CW.condT rfl ?_ | refine CW.condF rfl ?_)
      refine CW.reg ?_
      refine WL.val rfl (run_move) ?_
      refine WL.val rfl (run_loadN ty27 rfl hdl hs.a1) ?_
      refine WL.enter rfl (run_call en19 rfl rfl) (hget hR1 ((Own.live (A := [_, _, _]) hs).sub sub3)) ?_
      rintro e w ⟨v5, Lv5, L1b, rfl, hv5, hR2, hq⟩
      refine ⟨_, rfl, ?_⟩
      replace hs := Own.put2 (A := [_, _, _]) hs hq
      refine WL.val rfl (run_move) ?_
      refine WL.val rfl (run_extract rfl rfl) ?_
      refine WL.val rfl (run_extract rfl rfl) ?_
      refine WL.val rfl (run_assign) ?_
      refine WL.val rfl (run_assign) ?_
      refine WL.nil ?_
      have hul : (u8s y).length = 1048576 * 1 := by rw [u8s, List.length_map, hy]
      repeat (first | refine CW.seq ?_ | refine CW.block ?_ | refine CW.skip ?_ | refine CW.label ?_ | refine CW.exit ?_ | refine CW.condT rfl ?_ | refine CW.condF rfl ?_)
      refine CW.reg ?_
      refine WL.val rfl (run_move) ?_
      refine WL.val rfl (run_move) ?_
      refine WL.buildSlice (cs := u8s [x]) (vs := [(0, Value.int .u8 x.toNat)]) Try.underlying22 ty5 rfl (by decide) rfl (by rfl) rfl hs (fun b93 w hs => ?_)
      refine WL.append Try.underlying22 Try.underlying22 ty5 rfl (by decide) rfl rfl (OwnSl.mk (b := b22) hul) (hs.front [_, _, _]) (Sl.own1 hs rfl) (Cells1.u8s _) (by first | omega | (simp only [List.length_append, List.length_cons, List.length_nil]; omega)) rfl (fun v94 Lv94 w hv94 hs => ?_)
      replace hs := Own.intoD (A := [_, _, _]) (L := L1b) (Lv := Lv94) hs
      refine WL.val rfl (run_assign) ?_
      refine WL.nil ?_
      have e94 : u8s y ++ u8s [x] = u8s (y ++ [x]) := by simp [u8s]
      have hll : (y ++ [x]).length = 1048577 := by rw [List.length_append, hy]; rfl
      have hfl : (frontL (y ++ [x]) 32).length = 32 := frontL_len (by decide)
      have hlo : OwnSl 5 1 v94 (y ++ [x]).length (u8s (y ++ [x])) Lv94 := by have h := hv94; rw [e94] at h; rw [hll]; exact h
      have hsm := hlo.some1 (by rw [hll]; decide)
      obtain ⟨bl, capl, more', hvl, hLl, hcl⟩ := hsm
      rw [hll] at hvl
      subst hvl
      have hcap : 1048577 ≤ capl := by rw [List.length_append, u8s, List.length_map, hll] at hcl; omega
      have hlh : Held Lv94 (.slice (some ⟨bl, 0, none⟩) 1048577 capl) (y ++ [x]) := ⟨Lv94, hlo, fun p hp => hp⟩
      have hgh : Held Lv5 v5 y := ⟨Lv5, hv5, fun p hp => hp⟩
      have hobt := hgh.form
      obtain ⟨ga, gc, rfl⟩ := hobt
      have hp3 := fun {D L w1 v} (hR : PRep bs (AS.mk 32 1048608 1 0 1 [⟨dg, y, 1⟩]).got D L) (hl : Lives (L ++ D) w1) h1 h2 h3 => put_abs (v := v) (y := y ++ [x]) (n := 2) (w0 := w1) hR ok1.got ⟨Nat.le_succ 1, Nat.le_succ 1, Nat.le_succ 1⟩ (by decide) hl h1 h2 h3 (by omega)
      simp only [long_put _ (show 1048576 < (y ++ [x]).length by omega)] at hp3
      have ok3 : (AS.mk 32 1048608 1 1 2 [⟨dg, y, 1⟩]).Ok := ⟨ok1.k1, ok1.k2, ok1.cap, ok1.sorted, ok1.len, ok1.used⟩
      have hpl3 := fun {D L w1 v} (hR : PRep bs (AS.mk 32 1048608 1 1 2 [⟨dg, y, 1⟩]) D L) (hl : Lives (L ++ D) w1) h1 h3 => plant_abs (v := v) (y := y ++ [x]) (n := 2) (w0 := w1) (d := dg) hR ok3 ⟨Nat.le_succ 1, Nat.le_succ 1, Nat.le_refl 2⟩ (by decide) hl hd32 h1 h3 (by omega)
      simp only [long_plant (AS.mk 32 1048608 1 1 2 [⟨dg, y, 1⟩]) hfit (show 1048576 < (y ++ [x]).length by omega)] at hpl3
      have hdig3 := fun {D L w1 v} (hR : PRep bs (AS.mk 32 1048608 1 1 2 [⟨dg, y, 1⟩]) D L) (hl : Lives L w1) h1 h2 => digest_abs' (v := v) (y := y ++ [x]) (w0 := w1) hR ok3 hl h1 h2 (by omega)
      have hof3 := fun {w1 v} (h : Sl w1 1 v (y ++ [x]).length (u8s (y ++ [x]))) => ofR_spec (k := 32) w1 h (by omega) (by decide) (by decide)
      have hobt : ∃ r, roundZ more 1048576 = r := ⟨_, rfl⟩
      obtain ⟨r, hr⟩ := hobt
      have hround := fun w1 => roundL_spec (n := 1048576) (by decide) (by decide) hm w1
      rw [hr] at hr1
      rw [hr] at hround
      have htk : ((y ++ [x]).take r).length = r := by rw [List.length_take, hll]; omega
      have hpt := fun {D L w1 v} (hR : PRep bt (AS.mk 32 1048607 0 0 1 []) D L) (hl : Lives (L ++ D) w1) h1 h3 => plant_abs (v := v) (y := (y ++ [x]).take r) (n := 1) (w0 := w1) (d := d1) hR ok2 ⟨Nat.zero_le _, Nat.zero_le _, Nat.le_refl _⟩ (by decide) hl d1_len h1 h3 (by omega)
      have hptv : ((AS.mk 32 1048607 0 0 1 []).plant d1 ((y ++ [x]).take r)).1 = 0 := small_plant fits_d1 (by omega)
      rw [hptv] at hpt
      have hd1l : (u8s d1).length = 32 := by rw [u8s, List.length_map, d1_len]
      have hlhs : ∀ {w1 : World} {X : List (Nat × Obj)}, Step [] X w0 w1 → (∀ p ∈ Lv94, p ∈ X) → Sl w1 1 (.slice (some ⟨bl, 0, none⟩) 1048577 capl) (y ++ [x]).length (u8s (y ++ [x])) := fun {w1 X} h hX => hlh.sl fun p hp => h.has p (hX p hp)
      have hR2' := hR2.mono (D' := Lv94 ++ (L2a ++ (Lv5 ++ (D2 ++ (D1 ++ []))))) fun p hp => by simp at hp; simp [hp]
      have hT1' := hT1.mono (D' := Lv5 ++ (D2 ++ (D1 ++ []))) fun p hp => by simp at hp; simp [hp]
      repeat (first | refine CW.seq ?_ | refine CW.block ?_ | refine CW.skip ?_ | refine CW.label ?_ | refine CW.exit ?_ | refine CW.condT rfl ?_ | refine CW.condF rfl ?_)
      refine CW.reg ?_
      refine WL.val rfl (run_move) ?_
      refine WL.val rfl (run_move) ?_
      refine WL.enter rfl (run_call en12 rfl rfl) (hp3 hR2' (Own.live (A := [_, _, _]) hs) (Own.sl (A := [_, _, _]) (L := L1b) hs (hlh.mono fun p hp => List.mem_append_left _ hp)) hlh.room (.inr (Own.outside (A := [_, _, _]) (L := L1b) hs (hlh.mono fun p hp => List.mem_append_left _ hp)))) ?_
      rintro e w ⟨L1c, D3, rfl, hR3, hq⟩
      refine ⟨_, rfl, ?_⟩
      replace hs := Own.put (A := [_, _, _]) hs hq
      refine WL.val rfl (run_move) ?_
      refine WL.val rfl (run_extract rfl rfl) ?_
      refine WL.val rfl (run_extract rfl rfl) ?_
      refine WL.alloc ty27 rfl hs (fun b18 w hs => ?_)
      first | refine WL.storeAll ty27 rfl rfl ((hzl)) (Cells1.u8s _) hs (by first | rfl | assumption) (fun w hs => ?_) | refine WL.storeAll_1 ty27 rfl rfl ((hzl)) (Cells1.u8s _) hs (by first | rfl | assumption) (fun w hs => ?_) | refine WL.storeAll_2 ty27 rfl rfl ((hzl)) (Cells1.u8s _) hs (by first | rfl | assumption) (fun w hs => ?_) | refine WL.storeAll_3 ty27 rfl rfl ((hzl)) (Cells1.u8s _) hs (by first | rfl | assumption) (fun w hs => ?_) | refine WL.storeAll_4 ty27 rfl rfl ((hzl)) (Cells1.u8s _) hs (by first | rfl | assumption) (fun w hs => ?_) | refine WL.storeAll ty27 rfl rfl ((hzl)) (Cells1.u8s _) hs (by first | rfl | assumption) (fun w hs => ?_)
      refine WL.val rfl (run_assign) ?_
      refine WL.nil ?_
      have hlh3 : Held (D3 ++ (Lv94 ++ (L2a ++ (Lv5 ++ (D2 ++ (D1 ++ [])))))) (.slice (some ⟨bl, 0, none⟩) 1048577 capl) (y ++ [x]) := hlh.mono fun p hp => by simp [hp]
      repeat (first | refine CW.seq ?_ | refine CW.block ?_ | refine CW.skip ?_ | refine CW.label ?_ | refine CW.exit ?_ | refine CW.condT rfl ?_ | refine CW.condF rfl ?_)
      refine CW.reg ?_
      refine WL.val rfl (run_move) ?_
      refine WL.val rfl (run_loadN ty27 rfl hdl hs.a3) ?_
      refine WL.val rfl (run_move) ?_
      refine WL.enter rfl (run_call en15 rfl rfl) (hpl3 hR3 (Own.live (A := [_, _, _, _]) hs) (Own.sl (A := [_, _, _, _]) (L := L1c) hs hlh3) (.inr (Own.outside (A := [_, _, _, _]) (L := L1c) hs hlh3))) ?_
      rintro e w ⟨L1d, D4, rfl, hR4, hq⟩
      refine ⟨_, rfl, ?_⟩
      replace hs := Own.put (A := [_, _, _, _]) hs hq
      refine WL.val rfl (run_assign) ?_
      refine WL.nil ?_
      replace hs := Own.regroup (A := [_, _, _, _]) hs
      have hmem : (bl, blk 5 (u8s (y ++ [x]) ++ more')) ∈ Lv94 := by rw [hLl]; simp
      have hatl : ∀ {w1 : World} {X : List (Nat × Obj)}, Step [] X w0 w1 → (bl, blk 5 (u8s (y ++ [x]) ++ more')) ∈ X → At w1 bl 0 (u8s (y ++ [x])) := fun {w1 X} h hX => (At.of_blk (h.has _ hX)).left
      have hcutl : ∀ {w1 : World} (q : Nat), q ≤ 1048577 → At w1 bl 0 (u8s (y ++ [x])) → Sl w1 1 (.slice (some ⟨bl, 0, none⟩) q capl) ((y ++ [x]).take q).length (u8s ((y ++ [x]).take q)) := fun {w1} q hq h => by
        have hlq : ((y ++ [x]).take q).length = q := by rw [List.length_take, hll]; omega
        rw [hlq]
        refine .mk (by rw [u8s, List.length_map, hlq, Nat.mul_one]) ?_
        have h2 := h.take q
        have e : (u8s (y ++ [x])).take q = u8s ((y ++ [x]).take q) := by rw [u8s, u8s, List.map_take]
        rw [e] at h2
        exact h2
      have hbl : bl ∉ L2a.map (·.1) := Own.outA (L := L2a) (o := blk 5 (u8s (y ++ [x]) ++ more')) hs (by simp [hmem])
      have hlive2 := Own.live (L := L2a) hs
      repeat (first | refine CW.seq ?_ | refine CW.block ?_ | refine CW.skip ?_ | refine CW.label ?_ | refine CW.exit ?_ | refine CW.condT rfl ?_ | refine CW.condF rfl ?_)
      refine CW.reg ?_
      refine WL.val rfl (run_move) ?_
      refine WL.val rfl (run_build rfl ((bld_d1 _))) ?_
      refine WL.val rfl (run_move) ?_
      refine WL.val rfl (run_move) ?_
      refine WL.enter rfl (run_call en24 rfl rfl) (hround _) ?_
      rintro e w ⟨rfl, hq⟩
      refine ⟨_, rfl, ?_⟩
      replace hs := hs.callE hq
      refine WL.val rfl (run_sliceSl0 (hi := r) (m := capl) Try.underlying22 ty5 rfl rfl rfl (by simp) (by omega) (Nat.le_refl _)) ?_
      refine WL.enter rfl (run_call en15 rfl rfl) (hpt hT1' (Own.live (L := L2a) hs) (hcutl r (by omega) (hatl hs (by simp [hmem]))) (.inr hbl)) ?_
      rintro e w ⟨L2b, D5, rfl, hT2, hq⟩
      refine ⟨_, rfl, ?_⟩
      replace hs := Own.put (L := L2a) hs hq
      refine WL.val rfl (run_assign) ?_
      refine WL.nil ?_
      have hyt : (y ++ [x]).take 1048576 = y := by rw [List.take_append_of_le_length (by omega), List.take_of_length_le (by omega)]
      have hcy : ∀ {w1 : World}, At w1 bl 0 (u8s (y ++ [x])) → Sl w1 1 (.slice (some ⟨bl, 0, none⟩) 1048576 capl) y.length (u8s y) := fun {w1} h => by have h3 := hcutl 1048576 (by decide) h; rw [hyt] at h3; exact h3
      have hsm2 := fun {w1 u1 u2} h1 h2 => same1_spec (u := u1) (v := u2) (x := y) (y := y) w1 h1 h2 (by omega) (by omega)
      simp only [decide_true] at hsm2
      repeat (first | refine CW.seq ?_ | refine CW.block ?_ | refine CW.skip ?_ | refine CW.label ?_ | refine CW.exit ?_ | refine CW.condT rfl ?_ | refine CW.condF rfl ?_)
      refine CW.reg ?_
      refine WL.val rfl (run_move) ?_
      refine WL.val rfl (run_bT (run_eql rfl rfl) (by rfl)) ?_
      refine WL.val rfl (run_move) ?_
      first | (refine WL.yes rfl rfl rfl ?_; refine WL.val rfl (run_move) ?_) | refine WL.no rfl rfl rfl (.inl rfl) ?_ | refine WL.no rfl rfl rfl (.inr rfl) ?_
      first | (refine WL.yes rfl rfl rfl ?_; refine WL.val rfl (run_move) ?_) | refine WL.no rfl rfl rfl (.inl rfl) ?_ | refine WL.no rfl rfl rfl (.inr rfl) ?_
      refine WL.yes rfl rfl rfl ?_
      refine WL.val rfl (run_sliceSl0 (hi := 1048576) (m := capl) Try.underlying22 ty5 rfl rfl rfl (by simp) (by omega) (Nat.le_refl _)) ?_
      refine WL.yes rfl rfl rfl ?_
      refine WL.enter rfl (run_call en18 rfl rfl) (hsm2 (hgh.sl fun p hp => hs.has p (by simp [hp])) (hcy (hatl hs (by simp [hmem])))) ?_
      rintro e w ⟨rfl, hq⟩
      refine ⟨_, rfl, ?_⟩
      replace hs := hs.callE hq
      first | refine WL.val rfl (run_pickT rfl) ?_ | refine WL.val rfl (run_pickF rfl) ?_
      refine WL.val rfl (run_move) ?_
      first | (refine WL.yes rfl rfl rfl ?_; refine WL.val rfl (run_move) ?_) | refine WL.no rfl rfl rfl (.inl rfl) ?_ | refine WL.no rfl rfl rfl (.inr rfl) ?_
      refine WL.yes rfl rfl rfl ?_
      refine WL.val rfl (run_bT (run_eql rfl rfl) (by decide)) ?_
      first | refine WL.val rfl (run_pickT rfl) ?_ | refine WL.val rfl (run_pickF rfl) ?_
      refine WL.val rfl (run_move) ?_
      first | (refine WL.yes rfl rfl rfl ?_; refine WL.val rfl (run_move) ?_) | refine WL.no rfl rfl rfl (.inl rfl) ?_ | refine WL.no rfl rfl rfl (.inr rfl) ?_
      refine WL.yes rfl rfl rfl ?_
      refine WL.val rfl (run_bT (run_eql rfl rfl) (by decide)) ?_
      first | refine WL.val rfl (run_pickT rfl) ?_ | refine WL.val rfl (run_pickF rfl) ?_
      refine WL.val rfl (run_move) ?_
      first | (refine WL.yes rfl rfl rfl ?_; refine WL.val rfl (run_move) ?_) | refine WL.no rfl rfl rfl (.inl rfl) ?_ | refine WL.no rfl rfl rfl (.inr rfl) ?_
      refine WL.yes rfl rfl rfl ?_
      refine WL.val rfl (run_bT (run_eql rfl rfl) (by decide)) ?_
      first | refine WL.val rfl (run_pickT rfl) ?_ | refine WL.val rfl (run_pickF rfl) ?_
      refine WL.val rfl (run_move) ?_
      first | (refine WL.yes rfl rfl rfl ?_; refine WL.val rfl (run_move) ?_) | refine WL.no rfl rfl rfl (.inl rfl) ?_ | refine WL.no rfl rfl rfl (.inr rfl) ?_
      first | (refine WL.yes rfl rfl rfl ?_; refine WL.val rfl (run_move) ?_) | refine WL.no rfl rfl rfl (.inl rfl) ?_ | refine WL.no rfl rfl rfl (.inr rfl) ?_
      refine WL.yes rfl rfl rfl ?_
      refine WL.enter rfl (run_call en25 rfl rfl) (hdig3 hR4 (Lives.of (L1 := L1d) (L2 := D4 ++ (D3 ++ Lv94)) (Step.dropL (L1 := [_, _, _, _]) (Step.dropR hs))) (hlh.sl fun p hp => hs.has p (by simp [hp])) hlh.room) ?_
      rintro e w ⟨rfl, hq⟩
      refine ⟨_, rfl, ?_⟩
      replace hs := hs.callE hq
      first | (refine WL.yes rfl rfl rfl ?_; refine WL.val rfl (run_move) ?_) | refine WL.no rfl rfl rfl (.inl rfl) ?_ | refine WL.no rfl rfl rfl (.inr rfl) ?_
      refine WL.yes rfl rfl rfl ?_
      refine WL.enter rfl (run_call en13 rfl rfl) (hof3 (hlh.sl fun p hp => hs.has p (by simp [hp]))) ?_
      rintro e w ⟨rfl, hq⟩
      refine ⟨_, rfl, ?_⟩
      replace hs := hs.callE hq
      refine WL.yes rfl rfl rfl ?_
      refine WL.val rfl (run_bT (run_eqDig hfl hfl rfl rfl) rfl) ?_
      first | refine WL.val rfl (run_pickT rfl) ?_ | refine WL.val rfl (run_pickF rfl) ?_
      refine WL.val rfl (run_move) ?_
      refine WL.yes rfl rfl rfl ?_
      refine WL.enter rfl (run_call en10 rfl rfl) (head_spec _) ?_
      rintro e w ⟨rfl, hq⟩
      refine ⟨_, rfl, ?_⟩
      replace hs := hs.callE hq
      first | refine WL.val rfl (run_pickT rfl) ?_ | refine WL.val rfl (run_pickF rfl) ?_
      refine WL.val rfl (run_assign) ?_
      refine WL.nil ?_
      repeat (first | refine CW.seq ?_ | refine CW.block ?_ | refine CW.skip ?_ | refine CW.label ?_ | refine CW.exit ?_ | refine CW.condT rfl ?_ | refine CW.condF rfl ?_)
      refine CW.ret ?_
      refine fin_ret1 rfl ?_
      exact ⟨rfl, hs.clear⟩
end Go.Gx
/-! CasBig -/
namespace Go.Proofs.Ytakhjiecinpmiaa.casBig
open Go.ChangeShapes Go.WideShapes Go.ChangeAt Go.RowKit
set_option linter.unusedVariables false

theorem own : ownKnob Try.prog.godebug = none := by kernel_rfl
theorem laid : laidOutB Try.prog = true := by kernel_rfl

set_option maxRecDepth 100000 in
theorem lifted (os : Os) (started : os.Started) (H : Type) (enc : TypeId × Value → H) :
    ReturnsInHanded {} Try.checked os 4 .any (Rows.casBigSpec.pre6 enc Try.prog Try.f4 Rows.casBigRow.domain false) (Rows.casBigSpec.post enc Try.prog Try.f4 false true false false) := by
  refine returnsInHanded_of_change (C := Try.checked) own started (by kernel_rfl) Try.func4
    (ChangeSpec.witness6 (enc := enc) (C := Try.checked) false ⟨#[], #[.int .u8 0, .int .i64 0], []⟩ 12 (by kernel_rfl) (by kernel_rfl) (by kernel_rfl) (by kernel_rfl)) ?_
  intro W base args ds gs before hval0 hW hcnd _
  have hval : ∀ (j : Nat) t v, Try.f4.params[j]? = some t → args[j]? = some v → Value.okWide Try.prog W .any base t v := hval0
  have hW' := hW
  obtain ⟨p, q, hA0, hV, rfl, hfz, hnd⟩ := hW
  have hA : DataW.TrodAll enc Try.prog W 0 (fun _ => true) true Try.f4.params.toList args.toList ds p := hA0
  rw [Try.params4] at hA hval
  obtain ⟨rfl, rfl⟩ := trodVars_none hV
  obtain ⟨vs, hargs, hA⟩ : ∃ vs, args = vs.toArray ∧ DataW.TrodAll enc Try.prog W 0 (fun _ => true) true [5, 3] vs ds p := ⟨args.toList, rfl, hA⟩
  obtain rfl := hargs
  have hA1 := hA
  obtain ⟨v0, vs0, d0, ds0, p0, q0, rfl, rfl, rfl, h0, hA⟩ := trodAll_cons hA
  obtain ⟨v1, vs1, d1, ds1, p1, q1, rfl, rfl, rfl, h1, hA⟩ := trodAll_cons hA
  obtain ⟨rfl, rfl, rfl⟩ := trodAll_nil hA
  clear hA hval0
  simp only [List.append_nil] at hW' hA1 hfz hnd
  obtain ⟨n0, hv0⟩ := Go.Gx.open_u8 (hval 0 5 v0 rfl rfl) h0
  obtain ⟨n1, hv1, hn1⟩ := Go.Gx.open_i64 (hval 1 3 v1 rfl rfl) h1
  subst hv0
  subst hv1
  refine (Go.Gx.big_spec hn1 n0 W).mono fun e W' ⟨he, hg⟩ => ?_
  subst he
  have hb := hg.below
  have hlt := fun x hx => hW'.lt x hx
  have hst := Go.Gx.trodAll_stays laid hb hA1 (by simpa using hlt) (by intro t ht; simp only [List.mem_cons, List.not_mem_nil, or_false] at ht; rcases ht with rfl | rfl <;> exact ⟨by kernel_rfl, of_decide_eq_true (by kernel_rfl)⟩)
  refine ⟨_, rfl, [d0, d1], [], _, [], _, [], hW', trodAll_cons_mk (shut_bool Try.underlying4 _) trodAll_mk0, hst, rfl, hb.frame _, fun h => by cases h⟩

theorem over : Rows.casBigRow.holds Try.pinned (OpenSpec.ofChange Rows.casBigSpec) :=
  OpenClaim.holds_of_wide 4 Try.f4 rfl rfl rfl rfl rfl rfl rfl ⟨rfl, rfl, rfl, rfl, rfl⟩ rfl rfl rfl rfl rfl (by kernel_rfl) Try.func4 (by kernel_rfl)
    (of_decide_eq_true (by kernel_rfl)) (by unfold Func.isWrapper; first | (rw [if_pos (by decide +kernel)]; kernel_rfl) | (rw [if_neg (by decide +kernel)]; exact ⟨rfl, rfl⟩))
    (fun os started H enc _ => lifted os started H enc)

/-- The statement. -/
theorem proved : Rows.CasBigSaid :=
  over
#print axioms proved
end Go.Proofs.Ytakhjiecinpmiaa.casBig
