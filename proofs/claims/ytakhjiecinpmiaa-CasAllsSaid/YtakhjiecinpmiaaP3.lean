/- CasAlls: what its ranges read; loops and cuts within a round. CasAlls, walked. CasAllsSaid: a sequence goes over what lay there when it was made: left early, ranged over again, within itself, while the Store is changed: the law returns true, the arguments read as they did; no condition. -/
import Derived.Test.YtakhjiecinpmiaaP1
import Derived.Test.YtakhjiecinpmiaaM6
/-! Alls1 -/
namespace Go.Gx
open Go.Proofs
set_option linter.unusedVariables false
set_option linter.unusedSimpArgs false
set_option maxRecDepth 100000
attribute [local irreducible] shaL cutD frontL
section
variable {P : Program} {n : Nat} {f : Slots} {ds : List Deferred} {w : World}
/-- A sequence with what holds between. -/
theorem CW.seqM {Q : Post} {x y : Code} (M : Slots → World → Prop) (h : CW P x (thenC (fun f' ds' w' => ds' = ds ∧ M f' w') Q) n f ds w) (hr : ∀ f' w', M f' w' → CW P y Q n f' ds w') : CW P (.seq x y) Q n f ds w :=
  CW.seq (h.mono fun e f' ds' w' hq => by
    cases e with
    | normal =>
      obtain ⟨rfl, hM⟩ := hq
      exact hr _ _ hM
    | exit id => exact hq
    | goto id => exact hq
    | ret => exact hq
    | panic ch => exact hq
    | outgrown => exact hq)
end
theorem WRep.open {bw : Nat} {s : AS} {D W : List (Nat × Obj)} (h : WRep bw s D W) : ∃ bp br vI L R, PRep bp s D L ∧ RRep br s D R ∧ (bw, blk 64 (woC bp br vI)) ∈ W ∧ ∀ {w : World}, Lives (W ++ D) w → Lives (L ++ D) w ∧ Lives (R ++ D) w ∧ w.cell? ⟨bw, 0, none⟩ = some (.pointer (some ⟨bp, 0, none⟩)) ∧ w.cell? ⟨bw, 1, none⟩ = some (.pointer (some ⟨br, 0, none⟩)) := by
  obtain ⟨bp, br, vI, Lm, L, R, rfl, hI, hR, hT⟩ := h
  refine ⟨bp, br, vI, L, R, hR, hT, by simp, fun {w} hw => ?_⟩
  have hs := WRep.start hw
  refine ⟨Two.live (A := _ :: Lm) hs, Two.rlive (A := _ :: Lm) hs, ?_, ?_⟩
  · rw [cell_blk hs.hd]; rfl
  · rw [cell_blk hs.hd]; rfl
theorem mem_skip {α : Type} {A B C : List α} {p : α} (h : p ∈ A ++ C) : p ∈ A ++ (B ++ C) := by
  simp only [List.mem_append] at h ⊢
  rcases h with h | h <;> simp [h]
theorem wstep_at {bw : Nat} {s : AS} {D W X : List (Nat × Obj)} {n : Nat} {x : Stp} {w0 w : World} (hW : WRep bw s D W) (ok : s.Ok) (few : s.Few n) (hn : n < 1099511627775) (hw : Lives (W ++ D) w) (hs : Step [] X w0 w) (hX : ∀ p ∈ W ++ D, p ∈ X) (hx : x.Ok w0) :
    Calls Try.prog 32 #[.pointer (some ⟨bw, 0, none⟩), .agg x.cells.toArray] w (WPost bw s D W n w) :=
  wstep_spec hW ok few hn hw (hx.stepE hs (.inr (outside_nil _)) (.inr (outside_nil _)))
    (OutE.new (L := W ++ D) hs hx.hb (.inr (outside_nil _)) hX) (OutE.new (L := W ++ D) hs hx.hc (.inr (outside_nil _)) hX)

section
variable {P : Program} {ro : Option Nat} {Q : Post} {n : Nat} {f : Slots} {ds : List Deferred} {w : World}
/-- Within a round: a sequence with what holds between. -/
theorem CWI.seqM {x y : Code} (M : Slots → World → Prop) (h : CWI P ro x (thenC (fun f' ds' w' => ds' = ds ∧ M f' w') Q) n f ds w) (hr : ∀ f' w', M f' w' → CWI P ro y Q n f' ds w') : CWI P ro (.seq x y) Q n f ds w :=
  CWI.seq (h.mono fun e f' ds' w' hq => by
    cases e with
    | normal =>
      obtain ⟨rfl, hM⟩ := hq
      exact hr _ _ hM
    | exit id => exact hq
    | goto id => exact hq
    | ret => exact hq
    | panic ch => exact hq
    | outgrown => exact hq)
/-- Within a round: a loop. -/
theorem CWI.loop {c : Code} (I : Slots → World → Prop) (μ : Slots → Nat) (h0 : I f w)
    (hr : ∀ f w, I f w → CWI P ro c (thenC (fun f' ds' w' => ds' = ds ∧ I f' w' ∧ μ f' < μ f) Q) n f ds w) : CWI P ro (.loop c) Q n f ds w :=
  ⟨fun a ha => wpIn_loop (fun a w => ∃ f, Rep n f ds a ∧ I f w) (fun a _ => μ fun t => a.tmps.getD t undef) ⟨f, ha, h0⟩ fun a w ⟨f, ha, hI⟩ => by
    have e0 : ∀ {f a}, Rep n f ds a → (fun t => a.tmps.getD t undef) = f := fun h => funext h.get
    refine wpIn_mono ((hr f w hI).out a ha) fun e a' w' ⟨f', ds', hr', hq⟩ => ?_
    cases e with
    | normal =>
      obtain ⟨rfl, hI', hlt⟩ := hq
      exact ⟨⟨f', hr', hI'⟩, by rw [e0 ha, e0 hr']; exact hlt⟩
    | exit id => exact ⟨f', ds', hr', hq⟩
    | goto id => exact ⟨f', ds', hr', hq⟩
    | ret => exact ⟨f', ds', hr', hq⟩
    | panic ch => exact ⟨f', ds', hr', hq⟩
    | outgrown => exact ⟨f', ds', hr', hq⟩⟩
end
theorem Step.dropX {S : List Nat} {p : Nat × Obj} {A B : List (Nat × Obj)} {w0 w : World} (h : Step S (A ++ p :: B) w0 w) : Step S (A ++ B) w0 w := (h.perm List.perm_middle).tail
theorem OwnSl.slH {E sz : Nat} {v : Value} {k : Nat} {xs : List Value} {Lv : List (Nat × Obj)} {w : World} (h : OwnSl E sz v k xs Lv) (hw : ∀ p ∈ Lv, w.heap[p.1]? = some p.2) : Sl w sz v k xs := by
  obtain ⟨hl, ⟨rfl, rfl, rfl⟩ | ⟨b, cap, more, rfl, rfl, hc⟩⟩ := h
  · exact ⟨hl, .inl ⟨none, 0, rfl, rfl⟩⟩
  · exact .mk hl (At.of_blk (hw (b, blk E (xs ++ more)) (by simp))).left
/-- What All's sequence reads, where its blocks stand. -/
theorem seqOk_has {s : AS} {D : List (Nat × Obj)} (ok : s.Ok) {b3 : Nat} {lv : Value} {Lv : List (Nat × Obj)} {R : List Row} (ha1 : OwnSl 101 33 lv R.length (rowsR R) Lv) (ha2 : R.length = s.X.length)
    (ha3 : ∀ (i : Nat) (r : Row) (b : Blb), (R : List Row)[i]? = some r → s.X[i]? = some b → r.d = b.d ∧ Held D r.v b.x) {W : World} (hs : ∀ p ∈ (b3, blk 99 [lv]) :: Lv, W.heap[p.1]? = some p.2) (hD : ∀ p ∈ D, W.heap[p.1]? = some p.2) : SeqOk W b3 lv R (s.X.map fun b => (b.d, b.x)) := by
  have hl : (s.X.map fun b => (b.d, b.x)).length = R.length := by rw [List.length_map, ha2]
  have hul := used_len s.X
  have hou := ok.used
  refine ⟨?_, ha1.slH fun p hp => hs p (by simp [hp]), hl, by omega, ?_⟩
  · have h := hs (b3, blk 99 [lv]) (by simp)
    rw [cell_blk h]
    rfl
  · intro i r d x hr hx
    rw [List.getElem?_map] at hx
    cases hb : s.X[i]? with
    | none => rw [hb] at hx; cases hx
    | some b =>
      rw [hb] at hx
      have hobt := ha3 i r b hr hb
      obtain ⟨h1, h2⟩ := hobt
      simp only [Option.map_some, Option.some.injEq, Prod.mk.injEq] at hx
      obtain ⟨rfl, rfl⟩ := hx
      have hm := used_mem (List.mem_of_getElem? hb)
      exact ⟨h1, by omega, h2.sl hD⟩
/-- The rows of a Twin of the document's Store. -/
theorem want_of {br : Nat} {s : AS} {D R : List (Nat × Obj)} (hT : RRep br s D R) (ok : s.Ok) : ∃ a c, (∀ {w : World}, (∀ p ∈ R ++ D, w.heap[p.1]? = some p.2) → At w br 0 (rsC s.k s.cap s.last (.slice a s.X.length c) s.gets s.puts)) ∧
    ∀ {k : Nat} {b : Blb}, s.X[k]? = some b → ∃ bv rv, a = some ⟨bv, 0, none⟩ ∧ ∀ {w : World}, (∀ p ∈ R ++ D, w.heap[p.1]? = some p.2) → At w bv (0 + k * 34) (rbC (b.d, rv, b.st)) ∧ Sl w 1 rv b.x.length (u8s b.x) := by
  obtain ⟨v, Lv, T, rfl, h2, h3⟩ := hT
  have hobt := h2.form
  obtain ⟨a, c, rfl⟩ := hobt
  refine ⟨a, c, fun {w} hw => At.of_blk (hw (br, blk 70 (rsC s.k s.cap s.last (.slice a s.X.length c) s.gets s.puts)) (by simp)), fun {k b} hb => ?_⟩
  have hlen := h3.len32 ok.len
  have hobt := h3.at hb
  obtain ⟨t, ht, e1, e2, e3⟩ := hobt
  obtain ⟨td, tv, ts⟩ := t
  simp only at e1 e2 e3
  subst e1 e2
  obtain ⟨hl, ⟨h4, h5, h6⟩ | ⟨bv, cap, more, h4, h5, h6⟩⟩ := h2
  · rw [List.eq_nil_of_length_eq_zero h5] at hb
    simp at hb
  · have hobt := Value.slice.inj h4
    obtain ⟨rfl, -, rfl⟩ := hobt
    refine ⟨bv, tv, rfl, fun {w} hw => ⟨?_, e3.sl fun p hp => hw p (by simp [hp])⟩⟩
    have : w.heap[bv]? = some (blk 76 (rowsT T ++ more)) := hw (bv, blk 76 (rowsT T ++ more)) (by simp [h5])
    exact (At.of_blk this).left.rowT hlen ht
theorem memF {α : Type} {p : α} (A : List α) {R F Z : List α} (h : p ∈ F) : p ∈ A ++ (R ++ (F ++ Z)) := by simp [h]
theorem memR {α : Type} {p : α} (A : List α) {R Z : List α} (h : p ∈ R) : p ∈ A ++ (R ++ Z) := by simp [h]
theorem memZ {α : Type} {p : α} (A : List α) {R F Z : List α} (h : p ∈ Z) : p ∈ A ++ (R ++ (F ++ Z)) := by simp [h]
theorem perm_alls {α : Type} {b8 b9 b10 b11 b14 b15 bq : α} {WD RD Lq : List α} : ((b15 :: (b14 :: ((b11 :: b10 :: b9 :: b8 :: WD) ++ RD)) ++ (bq :: Lq))).Perm (b10 :: ((b15 :: b14 :: b11 :: b9 :: b8 :: bq :: (Lq ++ RD)) ++ WD)) := by
  classical
  exact List.perm_iff_count.2 fun x => by
    simp only [List.count_append, List.count_cons]
    omega
theorem wrap8 (c : UInt8) : IntKind.u8.wrap ((c.toNat : Int) + 1) = ((c + 1).toNat : Int) := by
  rw [UInt8.toNat_add]
  have h : (1 : UInt8).toNat = 1 := rfl
  rw [h]
  simp [IntKind.wrap, IntKind.signed, IntKind.bits]
theorem set_u8 {ys : List UInt8} {more : List Value} {i : Nat} {y : UInt8} (h : i < ys.length) : (u8s ys ++ more).set i (.int .u8 ((y + 1).toNat : Int)) = u8s (ys.set i (y + 1)) ++ more := by
  rw [List.set_append_left _ _ (by simpa [u8s] using h)]
  simp [u8s, List.map_set]
end Go.Gx
/-! AllsW -/
namespace Go.Gx
open Go.Proofs
set_option linter.unusedVariables false
set_option linter.unusedSimpArgs false
set_option maxRecDepth 100000
attribute [local irreducible] shaL cutD frontL
set_option maxHeartbeats 8000000 in
theorem casalls_spec {wd cp st : Int} {vl vm : Value} {l lm : List Stp} (w0 : World) (hl : Stps w0 vl l) (hm : Stps w0 vm lm) :
    Calls Try.prog 8 #[.int .i64 wd, .int .i64 cp, vl, vm, .int .i64 st] w0 (Ret0 (.bool true) w0) := by
  have hs : Step [] [] w0 w0 := Step.refl w0
  have hobt := hl.sl.form
  obtain ⟨al, cl, rfl⟩ := hobt
  have hobt := hm.sl.form
  obtain ⟨am, cm, rfl⟩ := hobt
  have hll := hl.len
  have hml := hm.len
  refine callsM (n := 202) Try.func8 rfl rfl rfl ?_
  by_cases hbad : (wd < 1 ∨ 32 < wd) ∨ ¬ (0 ≤ cp ∧ cp ≤ 67108864)
  · refine CW.seq ?_
    refine CW.reg ?_
    refine WL.box rfl (rfl) rfl hs (fun b8 w hs => ?_)
    refine WL.box rfl (rfl) rfl hs (fun b9 w hs => ?_)
    refine WL.alloc ty4 rfl hs (fun b10 w hs => ?_)
    refine WL.nil ?_
    refine CW.seq ?_
    refine CW.reg ?_
    refine WL.val rfl (run_move) ?_
    refine WL.val rfl (run_move) ?_
    refine WL.enter rfl (run_call en31 rfl rfl) (made_bad hbad _) ?_
    rintro e w ⟨rfl, hq⟩
    refine ⟨_, rfl, ?_⟩
    replace hs := hs.callE hq
    refine WL.val rfl (run_move) ?_
    refine WL.val rfl (run_extract rfl rfl) ?_
    refine WL.val rfl (run_extract rfl rfl) ?_
    refine WL.alloc ty57 rfl hs (fun b11 w hs => ?_)
    refine WL.store1 ty57 rfl rfl (rfl) hs (by first | (simp; done) | omega | (simp only [List.length_append, List.length_replicate, List.length_cons, List.length_nil, List.length_set]; omega) | (simp [Ent.cells, u8s]; done) | exact Nat.le_of_ble_eq_true rfl) (fun w hs => ?_)
    refine WL.val rfl (run_assign) ?_
    refine WL.nil ?_
    refine CW.seq <| CW.seq ?_
    refine CW.reg ?_
    refine WL.val rfl (run_move) ?_
    refine WL.val rfl (run_not rfl) ?_
    refine WL.val rfl (run_move) ?_
    refine WL.yes rfl rfl rfl ?_
    refine WL.val rfl (run_load1 ty57 rfl (hs.c0 rfl)) ?_
    refine WL.yes rfl rfl rfl ?_
    refine WL.val rfl (run_nilNil Try.underlying57 rfl rfl) ?_
    refine WL.val rfl (run_pickF rfl) ?_
    refine WL.nil ?_
    refine CW.cond rfl (fun h => ?_) (fun h => ?_)
    · refine CW.seq ?_
      refine CW.reg ?_
      refine WL.val rfl (run_move) ?_
      refine WL.store1_1 ty4 rfl rfl (rfl) hs (by first | (simp; done) | omega | (simp only [List.length_append, List.length_replicate, List.length_cons, List.length_nil, List.length_set]; omega) | (simp [Ent.cells, u8s]; done) | exact Nat.le_of_ble_eq_true rfl) (fun w hs => ?_)
      refine WL.nil ?_
      refine CW.ret ?_
      exact finM_ret (bs := []) (.inl rfl) hs fun a ha w' hs' => ⟨_, res_cell1 ha rfl rfl (run_loadVar1 ty4 (hs'.c1 rfl)), rfl, hs'.clear⟩
    · cases h
  have hobt : ∃ k : Nat, wd = k := ⟨wd.toNat, by omega⟩
  obtain ⟨k, rfl⟩ := hobt
  have hobt : ∃ c : Nat, cp = c := ⟨cp.toNat, by omega⟩
  obtain ⟨c, rfl⟩ := hobt
  have hk1 : 1 ≤ k := by omega
  have hk2 : k ≤ 32 := by omega
  have hc2 : c ≤ 67108864 := by omega
  refine CW.seq ?_
  refine CW.reg ?_
  refine WL.box rfl (rfl) rfl hs (fun b8 w hs => ?_)
  refine WL.box rfl (rfl) rfl hs (fun b9 w hs => ?_)
  refine WL.alloc ty4 rfl hs (fun b10 w hs => ?_)
  refine WL.nil ?_
  refine CW.seq ?_
  refine CW.reg ?_
  refine WL.val rfl (run_move) ?_
  refine WL.val rfl (run_move) ?_
  refine WL.enter rfl (run_call en31 rfl rfl) (made_new hk1 hk2 hc2 _) ?_
  rintro e w ⟨bw, W1, rfl, hW, hq⟩
  refine ⟨_, rfl, ?_⟩
  replace hs := (Step.call0 hs hq).append_comm
  refine WL.val rfl (run_move) ?_
  refine WL.val rfl (run_extract rfl rfl) ?_
  refine WL.val rfl (run_extract rfl rfl) ?_
  refine WL.alloc ty57 rfl hs (fun b11 w hs => ?_)
  refine WL.store1 ty57 rfl rfl (rfl) hs (by first | (simp; done) | omega | (simp only [List.length_append, List.length_replicate, List.length_cons, List.length_nil, List.length_set]; omega) | (simp [Ent.cells, u8s]; done) | exact Nat.le_of_ble_eq_true rfl) (fun w hs => ?_)
  refine WL.val rfl (run_assign) ?_
  refine WL.nil ?_
  replace hs : Step [] ((b11, blk 57 [.pointer (some ⟨bw, 0, none⟩)]) :: (b10, blk 4 [.bool false]) :: (b9, blk 3 [.int .i64 st]) :: (b8, blk 46 [.slice am lm.length cm]) :: W1) w0 w := hs
  refine CW.seq <| CW.seq ?_
  refine CW.reg ?_
  refine WL.val rfl (run_move) ?_
  refine WL.val rfl (run_not rfl) ?_
  refine WL.val rfl (run_move) ?_
  refine WL.yes rfl rfl rfl ?_
  refine WL.val rfl (run_load1 ty57 rfl (hs.c0 rfl)) ?_
  refine WL.yes rfl rfl rfl ?_
  refine WL.val rfl (run_ptrNil Try.underlying57 rfl rfl) ?_
  refine WL.val rfl (run_pickF rfl) ?_
  refine WL.nil ?_
  refine CW.cond rfl (fun h => ?_) (fun h => ?_)
  · cases h
  refine CW.skip ?_
  refine CW.seqM (fun f w => ∃ s W D, WRep bw s D W ∧ s.Ok ∧ s.Few 300 ∧ Step [] ((b11, blk 57 [.pointer (some ⟨bw, 0, none⟩)]) :: (b10, blk 4 [.bool false]) :: (b9, blk 3 [.int .i64 st]) :: (b8, blk 46 [.slice am lm.length cm]) :: (W ++ D)) w0 w ∧ Holds f [(8, .pointer (some ⟨b8, 0, none⟩)), (9, .pointer (some ⟨b9, 0, none⟩)), (10, .pointer (some ⟨b10, 0, none⟩)), (11, .pointer (some ⟨b11, 0, none⟩))]) ?_ ?_
  · refine CW.seq ?_
    refine CW.reg ?_
    refine WL.val rfl (run_assign) ?_
    refine WL.nil ?_
    refine CW.block ?_
    refine CW.loop (fun m f w' => ∃ i s W D, i ≤ l.length ∧ i ≤ 300 ∧ m = 300 - i ∧ WRep bw s D W ∧ s.Ok ∧ s.Few i ∧ Step [] ((b11, blk 57 [.pointer (some ⟨bw, 0, none⟩)]) :: (b10, blk 4 [.bool false]) :: (b9, blk 3 [.int .i64 st]) :: (b8, blk 46 [.slice am lm.length cm]) :: (W ++ D)) w0 w' ∧ Holds f [(2, .slice al l.length cl), (8, .pointer (some ⟨b8, 0, none⟩)), (9, .pointer (some ⟨b9, 0, none⟩)), (10, .pointer (some ⟨b10, 0, none⟩)), (11, .pointer (some ⟨b11, 0, none⟩)), (13, .int .i64 (i : Nat))]) (m := 300) ?_ ?_
    · exact ⟨0, _, W1, [], Nat.zero_le _, Nat.zero_le _, rfl, hW, newS_ok hk1 hk2 hc2, newS_few, by rw [List.append_nil]; exact hs, rfl, rfl, rfl, rfl, rfl, rfl, trivial⟩
    · rintro m f w ⟨i, s, W, D, hi1, hi3, rfl, hW, ok, few, hs, hf⟩
      by_cases hlt : i < l.length
      · by_cases h300 : i < 300
        · have hobt : ∃ x, l[i]? = some x := ⟨_, List.getElem?_eq_getElem hlt⟩
          obtain ⟨x, hx⟩ := hobt
          have hxo := hl.ok x (List.mem_of_getElem? hx)
          have hobt := hl.at hx
          obtain ⟨b, off, c0, hc0, hat⟩ := hobt
          rw [hc0] at hf
          have hobt := hf.chain
          obtain ⟨g, rfl⟩ := hobt
          have hx3 := Stp.cells_len hxo
          refine CW.seq <| CW.seq ?_
          refine CW.reg ?_
          refine WL.val rfl (run_move) ?_
          refine WL.val rfl (run_move) ?_
          refine WL.val rfl (run_lenSl Try.underlying46 rfl) ?_
          refine WL.val rfl (run_bT (run_lss rfl rfl) (by omega)) ?_
          refine WL.val rfl (run_move) ?_
          refine WL.yes rfl rfl rfl ?_; refine WL.val rfl (run_move) ?_
          refine WL.yes rfl rfl rfl ?_
          refine WL.val rfl (run_bT (run_lss rfl rfl) (by omega)) ?_
          refine WL.val rfl (run_pickT rfl) ?_
          refine WL.nil ?_
          refine CW.cond rfl (fun h => ?_) (fun h => ?_)
          · repeat (first | refine CW.seq ?_ | refine CW.block ?_ | refine CW.skip ?_)
            refine CW.quietT (l1 := [_, _, _, _, _]) (l2 := [_, _]) 5 rfl mixedP rfl (by kernel_rfl) hs ?_
            refine QL.val rfl (fun w hs => run_load1 ty57 rfl (hs.c0 rfl)) ?_
            refine QL.val rfl (fun w hs => run_move) ?_
            refine QL.val rfl (fun w hs => run_move) ?_
            refine QL.val rfl (fun w hs => run_ixSlN Try.underlying46 ty48 rfl rfl (by omega)) ?_
            refine QL.val rfl (fun w hs => run_loadN ty48 rfl hx3 (hat.step hs (by simp))) ?_
            refine QL.nil (fun w hs => ?_)
            refine WL.enter rfl (run_call en32 rfl rfl) (wstep_new (A := [_, _, _, _]) hW ok few (by omega) hs hxo) ?_
            rintro e w ⟨s2, W2, D2, rfl, hW2, ok2, few2, hk3, hq⟩
            refine ⟨_, rfl, ?_⟩
            replace hs := Own.put (A := [_, _, _, _]) hs hq
            refine WL.val rfl (run_not rfl) ?_
            refine WL.nil ?_
            refine CW.cond rfl (fun h => ?_) (fun h => ?_)
            · cases h
            refine CW.skip ?_
            refine CW.reg ?_
            refine WL.val rfl (run_move) ?_
            refine WL.val rfl (run_add (c := ((i + 1 : Nat) : Int)) rfl rfl (by omega) (by omega)) ?_
            refine WL.val rfl (run_assign) ?_
            refine WL.nil ?_
            refine (show _ ∧ _ from ⟨rfl, _, ?_, i + 1, s2, W2, D2 ++ D, by omega, by omega, rfl, hW2, ok2, few2, hs, hc0.symm, rfl, rfl, rfl, rfl, rfl, trivial⟩)
            omega
          · cases h
        · obtain rfl : i = 300 := by omega
          have hobt := hf.chain
          obtain ⟨g, rfl⟩ := hobt
          refine CW.seq <| CW.seq ?_
          refine CW.reg ?_
          refine WL.val rfl (run_move) ?_
          refine WL.val rfl (run_move) ?_
          refine WL.val rfl (run_lenSl Try.underlying46 rfl) ?_
          refine WL.val rfl (run_bT (run_lss rfl rfl) (by omega)) ?_
          refine WL.val rfl (run_move) ?_
          refine WL.yes rfl rfl rfl ?_; refine WL.val rfl (run_move) ?_
          refine WL.yes rfl rfl rfl ?_
          refine WL.val rfl (run_bF (run_lss rfl rfl) (by omega)) ?_
          refine WL.val rfl (run_pickT rfl) ?_
          refine WL.nil ?_
          refine CW.cond rfl (fun h => ?_) (fun h => ?_)
          · cases h
          refine CW.exit ?_
          exact ⟨rfl, s, W, D, hW, ok, few.mono (by omega), hs, rfl, rfl, rfl, rfl, trivial⟩
      · have hobt := hf.chain
        obtain ⟨g, rfl⟩ := hobt
        refine CW.seq <| CW.seq ?_
        refine CW.reg ?_
        refine WL.val rfl (run_move) ?_
        refine WL.val rfl (run_move) ?_
        refine WL.val rfl (run_lenSl Try.underlying46 rfl) ?_
        refine WL.val rfl (run_bF (run_lss rfl rfl) (by omega)) ?_
        refine WL.val rfl (run_move) ?_
        refine WL.no rfl rfl rfl (.inl rfl) ?_
        refine WL.no rfl rfl rfl (.inl rfl) ?_
        refine WL.val rfl (run_pickF rfl) ?_
        refine WL.nil ?_
        refine CW.cond rfl (fun h => ?_) (fun h => ?_)
        · cases h
        refine CW.exit ?_
        exact ⟨rfl, s, W, D, hW, ok, few.mono (by omega), hs, rfl, rfl, rfl, rfl, trivial⟩
  clear hs hW
  rintro f w ⟨s0, W0, D0, hW, ok0, few0, hs, hf⟩
  have hobt := hf.chain
  obtain ⟨g, rfl⟩ := hobt
  have hobt := hW.open
  obtain ⟨bp0, br0, vI0, Lp0, Lr0, hR0, hT0, hm0, ho0⟩ := hobt
  refine CW.seq ?_
  refine CW.reg ?_
  refine WL.val rfl (run_load1 ty57 rfl (hs.c0 rfl)) ?_
  refine WL.val rfl (run_nilCheck rfl) ?_
  refine WL.val rfl (run_field (o' := 1) Try.underlying64 rfl ty62 rfl rfl rfl) ?_
  refine WL.val rfl (run_load1 ty62 rfl ((ho0 (Own.live (A := [_, _, _, _]) hs)).2.2.2)) ?_
  refine WL.enter rfl (run_call en35 rfl rfl) (rtwin_abs hT0 ok0 (ho0 (Own.live (A := [_, _, _, _]) hs)).2.1) ?_
  rintro e w ⟨bt, R1, D1, rfl, hT1, hq⟩
  refine ⟨_, rfl, ?_⟩
  replace hs := (Step.call0 hs hq).append_comm
  have hobt := want_of hT1 ok0
  obtain ⟨ra, rc, hcell1, hrows⟩ := hobt
  refine WL.val rfl (run_nilCheck rfl) ?_
  refine WL.val rfl (run_field (o' := 3) Try.underlying70 rfl ty68 rfl rfl rfl) ?_
  refine WL.val rfl (run_load1 ty68 rfl ((hcell1 (fun p hp => hs.has p (List.mem_append_right _ hp))).cell (j := 3) rfl)) ?_
  refine WL.alloc ty68 rfl hs (fun b14 w hs => ?_)
  refine WL.store1 ty68 rfl rfl (rfl) hs (by first | (simp; done) | omega | (simp only [List.length_append, List.length_replicate, List.length_cons, List.length_nil, List.length_set]; omega) | (simp [Ent.cells, u8s]; done) | exact Nat.le_of_ble_eq_true rfl) (fun w hs => ?_)
  refine WL.nil ?_
  refine CW.seq ?_
  refine CW.reg ?_
  refine WL.val rfl (run_load1 ty57 rfl (hs.c1 rfl)) ?_
  refine WL.val rfl (run_nilCheck rfl) ?_
  refine WL.val rfl (run_field (o' := 0) Try.underlying64 rfl ty24 rfl rfl rfl) ?_
  refine WL.val rfl (run_load1 ty24 rfl ((ho0 (Own.live (A := [_, _, _, _]) (hs.tail.dropR (L1 := _ :: _ :: _ :: _ :: (W0 ++ D0))))).2.2.1)) ?_
  refine WL.enter rfl (run_call en36 rfl rfl) (all_abs hR0 ok0 (ho0 (Own.live (A := [_, _, _, _]) (hs.tail.dropR (L1 := _ :: _ :: _ :: _ :: (W0 ++ D0))))).1) ?_
  rintro e w ⟨bq, lv, Lq, Q, rfl, ha1, ha2, ha3, hq⟩
  refine ⟨_, rfl, ?_⟩
  replace hs := (Step.call0 hs hq).append_comm (L1 := _ :: Lq) (L2 := _ :: (_ ++ _))
  refine WL.alloc ty73 rfl hs (fun b15 w hs => ?_)
  refine WL.store1 ty73 rfl rfl (rfl) hs (by first | (simp; done) | omega | (simp only [List.length_append, List.length_replicate, List.length_cons, List.length_nil, List.length_set]; omega) | (simp [Ent.cells, u8s]; done) | exact Nat.le_of_ble_eq_true rfl) (fun w hs => ?_)
  refine WL.nil ?_
  replace hs : Step [] ((b10, blk 4 [.bool false]) :: (((b15, blk 73 [.func (.func 57) #[] #[.pointer (some ⟨bq, 0, none⟩)]]) :: (b14, blk 68 [.slice ra s0.X.length rc]) :: (b11, blk 57 [.pointer (some ⟨bw, 0, none⟩)]) :: (b9, blk 3 [.int .i64 st]) :: (b8, blk 46 [.slice am lm.length cm]) :: (bq, blk 99 [lv]) :: (Lq ++ (R1 ++ D1))) ++ (W0 ++ D0))) w0 w := hs.perm perm_alls
  have hobt : ∃ Fx, (b15, blk 73 [.func (.func 57) #[] #[.pointer (some ⟨bq, 0, none⟩)]]) :: (b14, blk 68 [.slice ra s0.X.length rc]) :: (b11, blk 57 [.pointer (some ⟨bw, 0, none⟩)]) :: (b9, blk 3 [.int .i64 st]) :: (b8, blk 46 [.slice am lm.length cm]) :: (bq, blk 99 [lv]) :: (Lq ++ (R1 ++ D1)) = Fx := ⟨_, rfl⟩
  obtain ⟨Fx, hFx⟩ := hobt
  have hm15 : (b15, blk 73 [.func (.func 57) #[] #[.pointer (some ⟨bq, 0, none⟩)]]) ∈ Fx := by rw [← hFx]; simp
  have hm14 : (b14, blk 68 [.slice ra s0.X.length rc]) ∈ Fx := by rw [← hFx]; simp
  have hm11 : (b11, blk 57 [.pointer (some ⟨bw, 0, none⟩)]) ∈ Fx := by rw [← hFx]; simp
  have hm9 : (b9, blk 3 [.int .i64 st]) ∈ Fx := by rw [← hFx]; simp
  have hm8 : (b8, blk 46 [.slice am lm.length cm]) ∈ Fx := by rw [← hFx]; simp
  have hmq : ∀ p ∈ (bq, blk 99 [lv]) :: Lq, p ∈ Fx := fun p hp => by
    rw [← hFx]
    rcases List.mem_cons.1 hp with rfl | hp
    · simp
    · simp [hp]
  have hmr : ∀ p ∈ R1 ++ D1, p ∈ Fx := fun p hp => by
    rw [← hFx]
    rcases List.mem_append.1 hp with hp | hp <;> simp [hp]
  rw [hFx] at hs
  clear hFx
  refine CW.seq <| CW.seq ?_
  refine CW.reg ?_
  refine WL.val rfl (run_load1 ty73 rfl ((hs.inCell (List.mem_cons_of_mem _ (List.mem_append_left _ hm15)) rfl))) ?_
  refine WL.val rfl (run_funcNil Try.underlying73 rfl rfl) ?_
  refine WL.nil ?_
  refine CW.cond rfl (fun h => ?_) (fun h => ?_)
  · cases h
  repeat (first | refine CW.seq ?_ | refine CW.skip ?_)
  refine CW.reg ?_
  refine WL.alloc ty3 rfl hs (fun b16 w hs => ?_)
  refine WL.store1 ty3 rfl rfl (rfl) hs (by first | (simp; done) | omega | (simp only [List.length_append, List.length_replicate, List.length_cons, List.length_nil, List.length_set]; omega) | (simp [Ent.cells, u8s]; done) | exact Nat.le_of_ble_eq_true rfl) (fun w hs => ?_)
  refine WL.nil ?_
  refine CW.block ?_
  refine CW.loopD (fun m f ds w' => ∃ (T : Nat) (bs : List Nat) (b16 : Nat) (s : AS) (Wd D : List (Nat × Obj)), T ≤ 2 ∧ m = 2 - T ∧ ds = bs.map markOf ∧ WRep bw s D Wd ∧ s.Ok ∧ s.Few (300 + 40 * T) ∧ (∀ p ∈ D0, p ∈ D) ∧ Step [] ((b16, blk 3 [.int .i64 T]) :: (b10, blk 4 [.bool false]) :: (marksO bs ++ (Fx ++ (Wd ++ D)))) w0 w' ∧ Holds f [(8, .pointer (some ⟨b8, 0, none⟩)), (9, .pointer (some ⟨b9, 0, none⟩)), (10, .pointer (some ⟨b10, 0, none⟩)), (11, .pointer (some ⟨b11, 0, none⟩)), (14, .pointer (some ⟨b14, 0, none⟩)), (15, .pointer (some ⟨b15, 0, none⟩)), (16, .pointer (some ⟨b16, 0, none⟩))]) (m := 2) ?_ ?_
  · exact ⟨0, [], b16, s0, W0, D0, by omega, rfl, rfl, hW, ok0, few0, fun p hp => hp, hs, rfl, rfl, rfl, rfl, rfl, rfl, rfl, trivial⟩
  clear hs hW hf
  rintro m f ds w ⟨T, bs, b16, s, Wd, D, hT, rfl, rfl, hW, ok, few, hsub, hs, hf⟩
  have hobt := hf.chain
  obtain ⟨g, rfl⟩ := hobt
  by_cases hT2 : T < 2
  · refine CW.seq <| CW.seq ?_
    refine CW.reg ?_
    refine WL.val rfl (run_load1 ty3 rfl (hs.c0 rfl)) ?_
    refine WL.val rfl (run_bT (run_lss rfl rfl) (by omega)) ?_
    refine WL.nil ?_
    refine CW.cond rfl (fun h => ?_) (fun h => ?_)
    · repeat (first | refine CW.seq ?_ | refine CW.block ?_ | refine CW.skip ?_)
      refine CW.reg ?_
      refine WL.alloc ty3 rfl hs (fun b17 w hs => ?_)
      refine WL.store1 ty3 rfl rfl (rfl) hs (by first | (simp; done) | omega | (simp only [List.length_append, List.length_replicate, List.length_cons, List.length_nil, List.length_set]; omega) | (simp [Ent.cells, u8s]; done) | exact Nat.le_of_ble_eq_true rfl) (fun w hs => ?_)
      refine WL.nil ?_
      refine CW.seq <| CW.seq ?_
      refine CW.reg ?_
      refine WL.val rfl (run_load1 ty73 rfl ((hs.inCell (List.mem_cons_of_mem _ (List.mem_cons_of_mem _ (List.mem_cons_of_mem _ (List.mem_append_right _ (List.mem_append_left _ hm15))))) rfl))) ?_
      refine WL.nil ?_
      refine CW.block ?_
      refine CW.rangeFunc2 (cap := [.pointer (some ⟨bq, 0, none⟩)]) en57 rfl hs ?_
      intro l1 b0 r1 Wb hrec1 hrs1 hrp1 hs2
      have hobt : ∃ R0, (b0, Obj.deferred (some [])) :: (b16, blk 3 [.int .i64 T]) :: (b10, blk 4 [.bool false]) :: marksO bs = R0 := ⟨_, rfl⟩
      obtain ⟨R0, hR⟩ := hobt
      have hR16 : (b16, blk 3 [.int .i64 T]) ∈ R0 := by rw [← hR]; simp
      replace hs2 : Step [] ((l1, .loop r1) :: (b17, blk 3 [.int .i64 0]) :: (R0 ++ (Fx ++ (Wd ++ D)))) w0 Wb := by
        rw [← hR]
        exact hs2.perm ((List.Perm.swap _ _ _).cons _)
      clear hs
      have hlx : (s0.X.map fun b => (b.d, b.x)).length = s0.X.length := List.length_map _
      have hul := used_len s0.X
      have hou := ok0.used
      refine (all2_iter (b3 := bq) (lv := lv) (R := Q) (X := s0.X.map fun b => (b.d, b.x)) Wb
        (J := fun k L W' => k ≤ s0.X.length ∧ ∃ s Wd D, L = (l1, .loop r1) :: (b17, blk 3 [.int .i64 (k : Nat)]) :: (R0 ++ (Fx ++ (Wd ++ D))) ∧ WRep bw s D Wd ∧ s.Ok ∧ s.Few (300 + 40 * T + min k 40) ∧ (∀ p ∈ D0, p ∈ D) ∧ Step [] L w0 W')
        (Jx := fun W' => ∃ (k : Nat) (s : AS) (Wd D : List (Nat × Obj)), k < s0.X.length ∧ T = 0 ∧ WRep bw s D Wd ∧ s.Ok ∧ s.Few (300 + 40 * (T + 1)) ∧ (∀ p ∈ D0, p ∈ D) ∧ Step [] ((l1, .loop (Loop.at r1 .done (some (.exit 4)))) :: (b17, blk 3 [.int .i64 (k + 1 : Nat)]) :: (R0 ++ (Fx ++ (Wd ++ D)))) w0 W') (L0 := (l1, .loop r1) :: (b17, blk 3 [.int .i64 0]) :: (R0 ++ (Fx ++ (Wd ++ D)))) ?_ ?_ ?_ ?_).mono ?_
      · rintro k L W W' ⟨hk, s, Wd, D, rfl, hW, ok, few, hsub, hs⟩ h'
        exact ⟨hk, s, Wd, D, rfl, hW, ok, few, hsub, hs.callE h'⟩
      · rintro k L W ⟨hk, s, Wd, D, rfl, hW, ok, few, hsub, hs⟩
        exact seqOk_has ok0 ha1 ha2 ha3 (fun p hp => hs.has p (memF [_, _] (hmq p hp))) (fun p hp => hs.has p (memZ [_, _] (List.mem_append_right _ (hsub p hp))))
      · exact ⟨Nat.zero_le _, s, Wd, D, rfl, hW, ok, few.mono (by omega), hsub, hs2⟩
      · clear hs2 hW ok few hsub
        rintro k d x L W' Wa v' Lv hx ⟨hk, s, Wd, D, rfl, hW, ok, few, hsub, hsL⟩ hst hu'
        obtain ⟨b, hb, hbd, hbx⟩ : ∃ b, s0.X[k]? = some b ∧ b.d = d ∧ b.x = x := by
          rw [List.getElem?_map] at hx
          cases hb : s0.X[k]? with
          | none => rw [hb] at hx; cases hx
          | some b =>
            rw [hb] at hx
            simp only [Option.map_some, Option.some.injEq, Prod.mk.injEq] at hx
            exact ⟨b, rfl, hx.1, hx.2⟩
        subst hbd hbx
        have hkl := (List.getElem?_eq_some_iff.1 hb).1
        have hd32 := ok0.len b (List.mem_of_getElem? hb)
        have hdl : (u8s b.d).length = 32 := by rw [u8s, List.length_map, hd32]
        have hmb := used_mem (List.mem_of_getElem? hb)
        have hW1 := Step.call0 hsL hst
        have hobt := hu'.form
        obtain ⟨va, vc, rfl⟩ := hobt
        have hsW := hW1.own0.perm List.perm_middle
        have hobt : ∃ S1, (Lv ++ ((l1, Obj.loop r1) :: (b17, blk 3 [.int .i64 (k : Nat)]) :: (R0 ++ (Fx ++ (Wd ++ D))))).map (·.1) = S1 := ⟨_, rfl⟩
        obtain ⟨S1, hS1⟩ := hobt
        have hS0 := hS1
        have hcl : ∀ {Y w}, Step S1 Y Wa w → Step [] Y w0 w := fun h => Step.callAll hW1 (by rw [hS1]; exact h)
        rw [hS1] at hsW
        have hobt := hrows hb
        obtain ⟨bv, rv, hra, hrow⟩ := hobt
        have hsame := fun {w1 u1 u2} h1 h2 => same1_spec (u := u1) (v := u2) (x := b.x) (y := b.x) w1 h1 h2 (by omega) (by omega)
        simp only [decide_true] at hsame
        have g1 : Held Lv (.slice va b.x.length vc) b.x := ⟨Lv, hu', fun p hp => hp⟩
        have f14 : ∀ {w : World}, (∀ p ∈ Fx, w.heap[p.1]? = some p.2) → w.cell? ⟨b14, 0, none⟩ = some (.slice (some ⟨bv, 0, none⟩) s0.X.length rc) := fun h => by rw [cell_blk (h _ hm14), ← hra]; rfl
        refine yields_of2 (n := 202) hrec1 hrs1 rfl rfl hsW ?_
        have hs := hsW
        refine CWI.seq ?_
        refine CWI.reg rfl (fun _ _ _ h => h) ?_
        refine WL.alloc ty27 rfl hs (fun b18 w hs => ?_)
        refine WL.storeAll ty27 rfl rfl ((hdl)) (Cells1.u8s _) hs (by first | rfl | assumption) (fun w hs => ?_)
        refine WL.nil ?_
        refine CWI.reg rfl (fun _ _ _ h => h) ?_
        refine WL.val rfl (run_assign) ?_
        refine WL.nil ?_
        refine ⟨_, _, _, _, hs.swap, hrs1, fun w3 hs => ?_⟩
        have e17 := fun {w} (hs : Step S1 ((l1, .loop (Loop.at r1 .busy r1.pending)) :: (b18, blk 27 (u8s b.d)) :: (Lv ++ ((b17, blk 3 [.int .i64 (k : Nat)]) :: (R0 ++ (Fx ++ (Wd ++ D)))))) Wa w) => hs.inCell (b := b17) (o := 0) (v := .int .i64 (k : Nat)) (List.mem_append_right [_, _] (List.mem_append_right Lv List.mem_cons_self)) rfl
        have eF := fun {w} (hs : Step S1 ((l1, .loop (Loop.at r1 .busy r1.pending)) :: (b18, blk 27 (u8s b.d)) :: (Lv ++ ((b17, blk 3 [.int .i64 (k : Nat)]) :: (R0 ++ (Fx ++ (Wd ++ D)))))) Wa w) (p : Nat × Obj) (hp : p ∈ Fx) => hs.has p (List.mem_append_right [_, _] (List.mem_append_right Lv (List.mem_cons_of_mem _ (List.mem_append_right R0 (List.mem_append_left _ hp)))))
        have eL := fun {w} (hs : Step S1 ((l1, .loop (Loop.at r1 .busy r1.pending)) :: (b18, blk 27 (u8s b.d)) :: (Lv ++ ((b17, blk 3 [.int .i64 (k : Nat)]) :: (R0 ++ (Fx ++ (Wd ++ D)))))) Wa w) (p : Nat × Obj) (hp : p ∈ Lv) => hs.has p (List.mem_append_right [_, _] (List.mem_append_left _ hp))
        repeat (first | refine CWI.seq ?_ | refine CWI.block ?_)
        refine CWI.quiet rfl (fun _ _ _ h => h) mixedP (by kernel_rfl) hs ?_
        refine QL.val rfl (fun w hs => run_load1 ty3 rfl ((e17 hs))) ?_
        refine QL.val rfl (fun w hs => run_load1 ty68 rfl ((f14 (eF hs)))) ?_
        refine QL.val rfl (fun w hs => run_lenSl Try.underlying68 rfl) ?_
        refine QL.val rfl (fun w hs => run_bF (run_geq rfl rfl) (by omega)) ?_
        refine QL.val rfl (fun w hs => run_move) ?_
        refine QL.yes rfl rfl rfl ?_
        refine QL.val rfl (fun w hs => run_loadN ty27 rfl hdl hs.a1) ?_
        refine QL.yes rfl rfl rfl ?_
        refine QL.val rfl (fun w hs => run_load1 ty68 rfl ((f14 (eF hs)))) ?_
        refine QL.yes rfl rfl rfl ?_
        refine QL.val rfl (fun w hs => run_load1 ty3 rfl ((e17 hs))) ?_
        refine QL.yes rfl rfl rfl ?_; (first | refine QL.val rfl (fun w hs => run_ixSlN Try.underlying68 ty76 rfl rfl (by omega)) ?_ | refine QL.val rfl (fun w hs => run_ixSl Try.underlying68 ty76 rfl rfl (by omega)) ?_)
        refine QL.yes rfl rfl rfl ?_; refine QL.val rfl (fun w hs => run_field (o' := 0) Try.underlying76 rfl ty27 rfl rfl rfl) ?_
        refine QL.yes rfl rfl rfl ?_
        refine QL.val rfl (fun w hs => run_loadN ty27 rfl hdl (by have h := (hrow (fun p hp => eF hs p (hmr p hp))).1.take 32; rw [rbC_fst hd32] at h; exact h)) ?_
        refine QL.yes rfl rfl rfl ?_
        refine QL.val rfl (fun w hs => run_bF (run_neDig hd32 hd32 rfl rfl) (fun h => h rfl)) ?_
        refine QL.val rfl (fun w hs => run_pickF rfl) ?_
        refine QL.val rfl (fun w hs => run_move) ?_
        refine QL.yes rfl rfl rfl ?_; refine QL.val rfl (fun w hs => run_move) ?_
        refine QL.yes rfl rfl rfl ?_
        refine QL.val rfl (fun w hs => run_load1 ty68 rfl ((f14 (eF hs)))) ?_
        refine QL.yes rfl rfl rfl ?_
        refine QL.val rfl (fun w hs => run_load1 ty3 rfl ((e17 hs))) ?_
        refine QL.yes rfl rfl rfl ?_; (first | refine QL.val rfl (fun w hs => run_ixSlN Try.underlying68 ty76 rfl rfl (by omega)) ?_ | refine QL.val rfl (fun w hs => run_ixSl Try.underlying68 ty76 rfl rfl (by omega)) ?_)
        refine QL.yes rfl rfl rfl ?_; refine QL.val rfl (fun w hs => run_field (o' := 32) Try.underlying76 rfl ty22 rfl rfl rfl) ?_
        refine QL.yes rfl rfl rfl ?_
        refine QL.val rfl (fun w hs => run_load1 ty22 rfl (((hrow (fun p hp => eF hs p (hmr p hp))).1.cell (rbC_32 hd32)))) ?_
        refine QL.yes rfl rfl rfl ?_
        refine QL.enter rfl (fun w => run_call en18 rfl rfl) (fun w hs => hsame (g1.sl (eL hs)) (hrow (fun p hp => eF hs p (hmr p hp))).2) ?_
        refine QL.yes rfl rfl rfl ?_; (first | refine QL.val rfl (fun w hs => run_notB rfl) ?_ | refine QL.val rfl (fun w hs => run_not rfl) ?_)
        refine QL.val rfl (fun w hs => run_pickF rfl) ?_
        refine QL.nil (fun w hs => ?_)
        refine CWI.condF rfl ?_
        refine CWI.skip ?_
        refine CWI.seqM (fun f w => Step S1 ((l1, .loop (Loop.at r1 .busy r1.pending)) :: (b17, blk 3 [.int .i64 (k : Nat)]) :: (R0 ++ (Fx ++ (Wd ++ D)))) Wa w ∧ Holds f [(8, .pointer (some ⟨b8, 0, none⟩)), (9, .pointer (some ⟨b9, 0, none⟩)), (10, .pointer (some ⟨b10, 0, none⟩)), (11, .pointer (some ⟨b11, 0, none⟩)), (14, .pointer (some ⟨b14, 0, none⟩)), (15, .pointer (some ⟨b15, 0, none⟩)), (16, .pointer (some ⟨b16, 0, none⟩)), (17, .pointer (some ⟨b17, 0, none⟩))]) ?_ ?_
        · refine CWI.seq ?_
          refine CWI.reg rfl (fun _ _ _ h => h) ?_
          refine WL.val rfl (run_assign) ?_
          refine WL.nil ?_
          rcases hu'.2 with ⟨h1, h2, h3⟩ | ⟨bl, cap, more, h1, h2, h3⟩
          · refine CWI.block ?_
            refine CWI.loop (fun f w => Step S1 ((l1, .loop (Loop.at r1 .busy r1.pending)) :: (b18, blk 27 (u8s b.d)) :: (Lv ++ ((b17, blk 3 [.int .i64 (k : Nat)]) :: (R0 ++ (Fx ++ (Wd ++ D)))))) Wa w ∧ Holds f [(19, .slice va b.x.length vc), (20, .int .i64 0), (8, .pointer (some ⟨b8, 0, none⟩)), (9, .pointer (some ⟨b9, 0, none⟩)), (10, .pointer (some ⟨b10, 0, none⟩)), (11, .pointer (some ⟨b11, 0, none⟩)), (14, .pointer (some ⟨b14, 0, none⟩)), (15, .pointer (some ⟨b15, 0, none⟩)), (16, .pointer (some ⟨b16, 0, none⟩)), (17, .pointer (some ⟨b17, 0, none⟩))]) (fun _ => 0) ?_ ?_
            · exact ⟨hs, rfl, rfl, rfl, rfl, rfl, rfl, rfl, rfl, rfl, rfl, trivial⟩
            · rintro f w ⟨hs, hf⟩
              have hobt := hf.chain
              obtain ⟨g, rfl⟩ := hobt
              refine CWI.seq <| CWI.seq ?_
              refine CWI.reg rfl (fun _ _ _ h => h) ?_
              refine WL.val rfl (run_move) ?_
              refine WL.val rfl (run_move) ?_
              refine WL.val rfl (run_lenSl Try.underlying22 rfl) ?_
              refine WL.val rfl (run_bF (run_lss rfl rfl) (by omega)) ?_
              refine WL.nil ?_
              repeat (first | refine CWI.exit ?_ | refine CWI.condF rfl ?_)
              exact ⟨rfl, Step.dropMid (A := [_]) (B := _ :: Lv) hs, rfl, rfl, rfl, rfl, rfl, rfl, rfl, rfl, trivial⟩
          · rw [h2] at hs
            refine CWI.block ?_
            refine CWI.loop (fun f w => ∃ (i : Nat) (ys : List UInt8), i ≤ b.x.length ∧ ys.length = b.x.length ∧ Step S1 ((l1, .loop (Loop.at r1 .busy r1.pending)) :: (b18, blk 27 (u8s b.d)) :: (bl, blk 5 (u8s ys ++ more)) :: (b17, blk 3 [.int .i64 (k : Nat)]) :: (R0 ++ (Fx ++ (Wd ++ D)))) Wa w ∧ Holds f [(19, .slice (some ⟨bl, 0, none⟩) b.x.length cap), (20, .int .i64 (i : Nat)), (8, .pointer (some ⟨b8, 0, none⟩)), (9, .pointer (some ⟨b9, 0, none⟩)), (10, .pointer (some ⟨b10, 0, none⟩)), (11, .pointer (some ⟨b11, 0, none⟩)), (14, .pointer (some ⟨b14, 0, none⟩)), (15, .pointer (some ⟨b15, 0, none⟩)), (16, .pointer (some ⟨b16, 0, none⟩)), (17, .pointer (some ⟨b17, 0, none⟩))]) (fun f => match f 20 with | .int _ z => ((b.x.length : Int) - z).toNat | _ => 0) ?_ ?_
            · exact ⟨0, b.x, Nat.zero_le _, rfl, hs, h1, rfl, rfl, rfl, rfl, rfl, rfl, rfl, rfl, rfl, trivial⟩
            · rintro f w ⟨i, ys, hi, hyl, hs, hf⟩
              have hobt := hf.chain
              obtain ⟨g, rfl⟩ := hobt
              by_cases hlt : i < b.x.length
              · have hobt : ∃ y, ys[i]? = some y := ⟨_, List.getElem?_eq_getElem (by omega)⟩
                obtain ⟨y, hy⟩ := hobt
                have hyc : (u8s ys ++ more)[0 + i * 1]? = some (.int .u8 y.toNat) := by
                  rw [Nat.zero_add, Nat.mul_one, List.getElem?_append_left (by simp [u8s]; omega)]
                  simp [u8s, hy]
                have hyl2 : i < (u8s ys ++ more).length := by simp [u8s]; omega
                refine CWI.seq <| CWI.seq ?_
                refine CWI.reg rfl (fun _ _ _ h => h) ?_
                refine WL.val rfl (run_move) ?_
                refine WL.val rfl (run_move) ?_
                refine WL.val rfl (run_lenSl Try.underlying22 rfl) ?_
                refine WL.val rfl (run_bT (run_lss rfl rfl) (by omega)) ?_
                refine WL.nil ?_
                repeat (first | refine CWI.seq ?_ | refine CWI.block ?_ | refine CWI.skip ?_ | refine CWI.condT rfl ?_)
                refine CWI.reg rfl (fun _ _ _ h => h) ?_
                refine WL.val rfl (run_move) ?_
                refine WL.val rfl (run_move) ?_
                refine WL.val rfl (run_move) ?_
                refine WL.val rfl (run_move) ?_
                refine WL.val rfl (run_ixSlN Try.underlying22 ty5 rfl rfl (by omega)) ?_
                refine WL.val rfl (run_load1 ty5 rfl (hs.c2 hyc)) ?_
                refine WL.val rfl (run_addW rfl rfl) ?_
                refine WL.val rfl (run_ixSlN Try.underlying22 ty5 rfl rfl (by omega)) ?_
                refine WL.store1_2 ty5 rfl rfl (rfl) hs (by first | (simp; done) | omega | (simp only [List.length_append, List.length_replicate, List.length_cons, List.length_nil, List.length_set]; omega) | (simp [Ent.cells, u8s]; done) | exact Nat.le_of_ble_eq_true rfl) (fun w hs => ?_)
                refine WL.nil ?_
                replace hs : Step S1 ((l1, .loop (Loop.at r1 .busy r1.pending)) :: (b18, blk 27 (u8s b.d)) :: (bl, blk 5 (u8s (ys.set i (y + 1)) ++ more)) :: (b17, blk 3 [.int .i64 (k : Nat)]) :: (R0 ++ (Fx ++ (Wd ++ D)))) Wa w := by
                  rw [← set_u8 (y := y) (by omega), ← wrap8]
                  rw [Nat.zero_add, Nat.mul_one] at hs
                  exact hs
                refine CWI.reg rfl (fun _ _ _ h => h) ?_
                refine WL.val rfl (run_move) ?_
                refine WL.val rfl (run_add (c := ((i + 1 : Nat) : Int)) rfl rfl (by omega) (by omega)) ?_
                refine WL.val rfl (run_assign) ?_
                refine WL.nil ?_
                refine ⟨rfl, ⟨i + 1, ys.set i (y + 1), by omega, by rw [List.length_set]; exact hyl, hs, rfl, rfl, rfl, rfl, rfl, rfl, rfl, rfl, rfl, rfl, trivial⟩, ?_⟩
                show ((b.x.length : Int) - ((i + 1 : Nat) : Int)).toNat < ((b.x.length : Int) - (i : Nat)).toNat
                omega
              · refine CWI.seq <| CWI.seq ?_
                refine CWI.reg rfl (fun _ _ _ h => h) ?_
                refine WL.val rfl (run_move) ?_
                refine WL.val rfl (run_move) ?_
                refine WL.val rfl (run_lenSl Try.underlying22 rfl) ?_
                refine WL.val rfl (run_bF (run_lss rfl rfl) (by omega)) ?_
                refine WL.nil ?_
                repeat (first | refine CWI.exit ?_ | refine CWI.condF rfl ?_)
                exact ⟨rfl, Step.dropMid (A := [_]) (B := [_, _]) hs, rfl, rfl, rfl, rfl, rfl, rfl, rfl, rfl, trivial⟩
        clear e17 eF eL hs hsW
        rintro f w ⟨hs, hf⟩
        have hobt := hf.chain
        obtain ⟨g, rfl⟩ := hobt
        refine CWI.seq ?_
        refine CWI.reg rfl (fun _ _ _ h => h) ?_
        refine WL.alloc ty3 rfl hs (fun b21 w hs => ?_)
        refine WL.store1 ty3 rfl rfl (rfl) hs (by first | (simp; done) | omega | (simp only [List.length_append, List.length_replicate, List.length_cons, List.length_nil, List.length_set]; omega) | (simp [Ent.cells, u8s]; done) | exact Nat.le_of_ble_eq_true rfl) (fun w hs => ?_)
        refine WL.nil ?_
        refine CWI.seqM (fun f w => Step S1 ((l1, .loop (Loop.at r1 .busy r1.pending)) :: (b17, blk 3 [.int .i64 (k : Nat)]) :: (R0 ++ (Fx ++ (Wd ++ D)))) Wa w ∧ Holds f [(8, .pointer (some ⟨b8, 0, none⟩)), (9, .pointer (some ⟨b9, 0, none⟩)), (10, .pointer (some ⟨b10, 0, none⟩)), (11, .pointer (some ⟨b11, 0, none⟩)), (14, .pointer (some ⟨b14, 0, none⟩)), (15, .pointer (some ⟨b15, 0, none⟩)), (16, .pointer (some ⟨b16, 0, none⟩)), (17, .pointer (some ⟨b17, 0, none⟩))]) ?_ ?_
        · refine CWI.seq ?_
          refine CWI.reg rfl (fun _ _ _ h => h) ?_
          refine WL.val rfl (run_load1 ty73 rfl ((hs.inCell (memF [_, _, _] hm15) rfl))) ?_
          refine WL.nil ?_
          refine CWI.block ?_
          refine CWI.rangeFunc2 (l0 := l1) (r0 := Loop.at r1 .busy r1.pending) (cap := [.pointer (some ⟨bq, 0, none⟩)]) en57 rfl hs hs.tail.hd ?_
          intro l2 r2 W2 hrec2 hrs2 hrp2 hs2
          clear hs
          refine (all2_iter (b3 := bq) (lv := lv) (R := Q) (X := s0.X.map fun b => (b.d, b.x)) W2
            (J := fun j L W' => j ≤ s0.X.length ∧ L = (l2, .loop r2) :: (b21, blk 3 [.int .i64 (j : Nat)]) :: (l1, .loop (Loop.at r1 .busy r1.pending)) :: (b17, blk 3 [.int .i64 (k : Nat)]) :: (R0 ++ (Fx ++ (Wd ++ D))) ∧ Step S1 L Wa W')
            (Jx := fun W' => ∃ v : Int, Step S1 ((l2, .loop (Loop.at r2 .done (some (.exit 8)))) :: (b21, blk 3 [.int .i64 v]) :: (l1, .loop (Loop.at r1 .busy r1.pending)) :: (b17, blk 3 [.int .i64 (k : Nat)]) :: (R0 ++ (Fx ++ (Wd ++ D)))) Wa W') (L0 := (l2, .loop r2) :: (b21, blk 3 [.int .i64 0]) :: (l1, .loop (Loop.at r1 .busy r1.pending)) :: (b17, blk 3 [.int .i64 (k : Nat)]) :: (R0 ++ (Fx ++ (Wd ++ D)))) ?_ ?_ ?_ ?_).mono ?_
          · rintro j L W W' ⟨hj, rfl, hs⟩ h'
            exact ⟨hj, rfl, hs.callE h'⟩
          · rintro j L W ⟨hj, rfl, hs⟩
            exact seqOk_has ok0 ha1 ha2 ha3 (fun p hp => hs.has p (memF [_, _, _, _] (hmq p hp))) (fun p hp => hs.has p (memZ [_, _, _, _] (List.mem_append_right _ (hsub p hp))))
          · exact ⟨Nat.zero_le _, rfl, hs2⟩
          · clear hs2
            rintro j d x L W3 W4 v'' Lv' hx ⟨hj, rfl, hs3⟩ hst3 hu3
            obtain ⟨b', hb', hbd, hbx⟩ : ∃ b, s0.X[j]? = some b ∧ b.d = d ∧ b.x = x := by
              rw [List.getElem?_map] at hx
              cases hb : s0.X[j]? with
              | none => rw [hb] at hx; cases hx
              | some b =>
                rw [hb] at hx
                simp only [Option.map_some, Option.some.injEq, Prod.mk.injEq] at hx
                exact ⟨b, rfl, hx.1, hx.2⟩
            subst hbd hbx
            have hjl := (List.getElem?_eq_some_iff.1 hb').1
            have hd32' := ok0.len b' (List.mem_of_getElem? hb')
            have hdl' : (u8s b'.d).length = 32 := by rw [u8s, List.length_map, hd32']
            have hmb' := used_mem (List.mem_of_getElem? hb')
            have hW4 := Step.call0 hs3 hst3
            have hs := hW4.own0.perm List.perm_middle
            have hobt : ∃ S2, (Lv' ++ ((l2, Obj.loop r2) :: (b21, blk 3 [.int .i64 (j : Nat)]) :: (l1, .loop (Loop.at r1 .busy r1.pending)) :: (b17, blk 3 [.int .i64 (k : Nat)]) :: (R0 ++ (Fx ++ (Wd ++ D))))).map (·.1) = S2 := ⟨_, rfl⟩
            obtain ⟨S2, hS2⟩ := hobt
            have hcl2 : ∀ {Y w}, Step S2 Y W4 w → Step S1 Y Wa w := fun h => Step.callAll hW4 (by rw [hS2]; exact h)
            rw [hS2] at hs
            have hobt := hrows hb'
            obtain ⟨bv', rv', hra', hrow'⟩ := hobt
            have hsame' := fun {w1 u1 u2} h1 h2 => same1_spec (u := u1) (v := u2) (x := b'.x) (y := b'.x) w1 h1 h2 (by omega) (by omega)
            simp only [decide_true] at hsame'
            have g3 : Held Lv' v'' b'.x := ⟨Lv', hu3, fun p hp => hp⟩
            have f14' : ∀ {w : World}, (∀ p ∈ Fx, w.heap[p.1]? = some p.2) → w.cell? ⟨b14, 0, none⟩ = some (.slice (some ⟨bv', 0, none⟩) s0.X.length rc) := fun h => by rw [cell_blk (h _ hm14), ← hra']; rfl
            refine yields_of2 (n := 202) hrec2 hrs2 rfl rfl hs ?_
            refine CWI.seq ?_
            refine CWI.reg rfl (fun _ _ _ h => h) ?_
            refine WL.alloc ty27 rfl hs (fun b22 w hs => ?_)
            refine WL.storeAll ty27 rfl rfl ((hdl')) (Cells1.u8s _) hs (by first | rfl | assumption) (fun w hs => ?_)
            refine WL.nil ?_
            refine CWI.reg rfl (fun _ _ _ h => h) ?_
            refine WL.val rfl (run_assign) ?_
            refine WL.nil ?_
            refine ⟨_, _, _, _, hs.swap, hrs2, fun w3 hs => ?_⟩
            have e21 := fun {w} (hs : Step S2 ((l2, .loop (Loop.at r2 .busy r2.pending)) :: (b22, blk 27 (u8s b'.d)) :: (Lv' ++ ((b21, blk 3 [.int .i64 (j : Nat)]) :: (l1, .loop (Loop.at r1 .busy r1.pending)) :: (b17, blk 3 [.int .i64 (k : Nat)]) :: (R0 ++ (Fx ++ (Wd ++ D)))))) W4 w) => hs.inCell (b := b21) (o := 0) (v := .int .i64 (j : Nat)) (List.mem_append_right [_, _] (List.mem_append_right Lv' List.mem_cons_self)) rfl
            have eF := fun {w} (hs : Step S2 ((l2, .loop (Loop.at r2 .busy r2.pending)) :: (b22, blk 27 (u8s b'.d)) :: (Lv' ++ ((b21, blk 3 [.int .i64 (j : Nat)]) :: (l1, .loop (Loop.at r1 .busy r1.pending)) :: (b17, blk 3 [.int .i64 (k : Nat)]) :: (R0 ++ (Fx ++ (Wd ++ D)))))) W4 w) (p : Nat × Obj) (hp : p ∈ Fx) => hs.has p (List.mem_append_right [_, _] (List.mem_append_right Lv' (List.mem_append_right [_, _, _] (List.mem_append_right R0 (List.mem_append_left _ hp)))))
            have eL := fun {w} (hs : Step S2 ((l2, .loop (Loop.at r2 .busy r2.pending)) :: (b22, blk 27 (u8s b'.d)) :: (Lv' ++ ((b21, blk 3 [.int .i64 (j : Nat)]) :: (l1, .loop (Loop.at r1 .busy r1.pending)) :: (b17, blk 3 [.int .i64 (k : Nat)]) :: (R0 ++ (Fx ++ (Wd ++ D)))))) W4 w) (p : Nat × Obj) (hp : p ∈ Lv') => hs.has p (List.mem_append_right [_, _] (List.mem_append_left _ hp))
            repeat (first | refine CWI.seq ?_ | refine CWI.block ?_)
            refine CWI.quiet rfl (fun _ _ _ h => h) mixedP (by kernel_rfl) hs ?_
            refine QL.val rfl (fun w hs => run_load1 ty3 rfl ((e21 hs))) ?_
            refine QL.val rfl (fun w hs => run_load1 ty68 rfl ((f14' (eF hs)))) ?_
            refine QL.val rfl (fun w hs => run_lenSl Try.underlying68 rfl) ?_
            refine QL.val rfl (fun w hs => run_bF (run_geq rfl rfl) (by omega)) ?_
            refine QL.val rfl (fun w hs => run_move) ?_
            refine QL.yes rfl rfl rfl ?_
            refine QL.val rfl (fun w hs => run_loadN ty27 rfl hdl' hs.a1) ?_
            refine QL.yes rfl rfl rfl ?_
            refine QL.val rfl (fun w hs => run_load1 ty68 rfl ((f14' (eF hs)))) ?_
            refine QL.yes rfl rfl rfl ?_
            refine QL.val rfl (fun w hs => run_load1 ty3 rfl ((e21 hs))) ?_
            refine QL.yes rfl rfl rfl ?_; (first | refine QL.val rfl (fun w hs => run_ixSlN Try.underlying68 ty76 rfl rfl (by omega)) ?_ | refine QL.val rfl (fun w hs => run_ixSl Try.underlying68 ty76 rfl rfl (by omega)) ?_)
            refine QL.yes rfl rfl rfl ?_; refine QL.val rfl (fun w hs => run_field (o' := 0) Try.underlying76 rfl ty27 rfl rfl rfl) ?_
            refine QL.yes rfl rfl rfl ?_
            refine QL.val rfl (fun w hs => run_loadN ty27 rfl hdl' (by have h := (hrow' (fun p hp => eF hs p (hmr p hp))).1.take 32; rw [rbC_fst hd32'] at h; exact h)) ?_
            refine QL.yes rfl rfl rfl ?_
            refine QL.val rfl (fun w hs => run_bF (run_neDig hd32' hd32' rfl rfl) (fun h => h rfl)) ?_
            refine QL.val rfl (fun w hs => run_pickF rfl) ?_
            refine QL.val rfl (fun w hs => run_move) ?_
            refine QL.yes rfl rfl rfl ?_; refine QL.val rfl (fun w hs => run_move) ?_
            refine QL.yes rfl rfl rfl ?_
            refine QL.val rfl (fun w hs => run_load1 ty68 rfl ((f14' (eF hs)))) ?_
            refine QL.yes rfl rfl rfl ?_
            refine QL.val rfl (fun w hs => run_load1 ty3 rfl ((e21 hs))) ?_
            refine QL.yes rfl rfl rfl ?_; (first | refine QL.val rfl (fun w hs => run_ixSlN Try.underlying68 ty76 rfl rfl (by omega)) ?_ | refine QL.val rfl (fun w hs => run_ixSl Try.underlying68 ty76 rfl rfl (by omega)) ?_)
            refine QL.yes rfl rfl rfl ?_; refine QL.val rfl (fun w hs => run_field (o' := 32) Try.underlying76 rfl ty22 rfl rfl rfl) ?_
            refine QL.yes rfl rfl rfl ?_
            refine QL.val rfl (fun w hs => run_load1 ty22 rfl (((hrow' (fun p hp => eF hs p (hmr p hp))).1.cell (rbC_32 hd32')))) ?_
            refine QL.yes rfl rfl rfl ?_
            refine QL.enter rfl (fun w => run_call en18 rfl rfl) (fun w hs => hsame' (g3.sl (eL hs)) (hrow' (fun p hp => eF hs p (hmr p hp))).2) ?_
            refine QL.yes rfl rfl rfl ?_; (first | refine QL.val rfl (fun w hs => run_notB rfl) ?_ | refine QL.val rfl (fun w hs => run_not rfl) ?_)
            refine QL.val rfl (fun w hs => run_pickF rfl) ?_
            refine QL.nil (fun w hs => ?_)
            clear e21 eF eL
            replace hs := Step.dropMid (A := [_]) (B := _ :: Lv') hs
            repeat (first | refine CWI.seq ?_ | refine CWI.skip ?_ | refine CWI.condF rfl ?_)
            refine CWI.reg rfl (fun _ _ _ h => h) ?_
            refine WL.val rfl (run_load1 ty3 rfl (hs.c1 (v := .int .i64 (j : Nat)) rfl)) ?_
            refine WL.val rfl (run_add (c := ((j + 1 : Nat) : Int)) rfl rfl (by omega) (by omega)) ?_
            refine WL.store1_1 ty3 rfl rfl (rfl) hs (by first | (simp; done) | omega | (simp only [List.length_append, List.length_replicate, List.length_cons, List.length_nil, List.length_set]; omega) | (simp [Ent.cells, u8s]; done) | exact Nat.le_of_ble_eq_true rfl) (fun w hs => ?_)
            refine WL.nil ?_
            by_cases hgt : 2 < j + 1
            · refine CWI.seq ?_
              refine CWI.reg rfl (fun _ _ _ h => h) ?_
              refine WL.val rfl (run_load1 ty3 rfl (hs.c1 (v := .int .i64 (j + 1 : Nat)) rfl)) ?_
              refine WL.val rfl (run_bT (run_gtr rfl rfl) (by omega)) ?_
              refine WL.nil ?_
              repeat (first | refine CWI.exit ?_ | refine CWI.condT rfl ?_)
              refine ⟨_, _, _, _, hs, fun w' hs' => ?_⟩
              show (if false = true then _ else _)
              rw [if_neg (by simp)]
              exact ⟨_, hcl2 hs'⟩
            · refine CWI.seq ?_
              refine CWI.reg rfl (fun _ _ _ h => h) ?_
              refine WL.val rfl (run_load1 ty3 rfl (hs.c1 (v := .int .i64 (j + 1 : Nat)) rfl)) ?_
              refine WL.val rfl (run_bF (run_gtr rfl rfl) (by omega)) ?_
              refine WL.nil ?_
              repeat (first | refine CWI.skip ?_ | refine CWI.condF rfl ?_)
              refine ⟨_, _, _, _, hs, fun w' hs' => ?_⟩
              rw [Loop.at_back hrs2 hrp2] at hs'
              rw [if_pos rfl]
              replace hs' : Step S2 ((l2, .loop r2) :: (b21, blk 3 [.int .i64 (j + 1 : Nat)]) :: (l1, .loop (Loop.at r1 .busy r1.pending)) :: (b17, blk 3 [.int .i64 (k : Nat)]) :: (R0 ++ (Fx ++ (Wd ++ D)))) W4 w' := hs'
              have h5 := hcl2 hs'
              rw [← hS2] at hs'
              exact ⟨_, hs', by omega, rfl, h5⟩
          · rintro e W5 ⟨hret, ⟨L, hj, rfl, hs4⟩ | ⟨v, hs4⟩⟩
            · refine ⟨hret, behind_none hs4 hrs2 hrp2 fun w hs => ?_⟩
              exact ⟨rfl, Step.dropL (L1 := [_, _]) hs, rfl, rfl, rfl, rfl, rfl, rfl, rfl, rfl, trivial⟩
            · refine ⟨hret, behind_some hs4 rfl rfl fun w hs => ?_⟩
              refine CWI.exit ?_
              exact ⟨rfl, Step.dropL (L1 := [_, _]) hs, rfl, rfl, rfl, rfl, rfl, rfl, rfl, rfl, trivial⟩
        clear hs hf
        rintro f w ⟨hs, hf⟩
        have hobt := hf.chain
        obtain ⟨g, rfl⟩ := hobt
        refine CWI.seqM (fun f w => ∃ s Wd D, WRep bw s D Wd ∧ s.Ok ∧ s.Few (300 + 40 * T + min (k + 1) 40) ∧ (∀ p ∈ D0, p ∈ D) ∧ Step S1 ((l1, .loop (Loop.at r1 .busy r1.pending)) :: (b17, blk 3 [.int .i64 (k : Nat)]) :: (R0 ++ (Fx ++ (Wd ++ D)))) Wa w ∧ Holds f [(8, .pointer (some ⟨b8, 0, none⟩)), (9, .pointer (some ⟨b9, 0, none⟩)), (10, .pointer (some ⟨b10, 0, none⟩)), (11, .pointer (some ⟨b11, 0, none⟩)), (14, .pointer (some ⟨b14, 0, none⟩)), (15, .pointer (some ⟨b15, 0, none⟩)), (16, .pointer (some ⟨b16, 0, none⟩)), (17, .pointer (some ⟨b17, 0, none⟩))]) ?_ ?_
        · have r16 := fun {w} (hs : Step S1 ((l1, .loop (Loop.at r1 .busy r1.pending)) :: (b17, blk 3 [.int .i64 (k : Nat)]) :: (R0 ++ (Fx ++ (Wd ++ D)))) Wa w) => hs.inCell (b := b16) (o := 0) (v := .int .i64 T) (memR [_, _] hR16) rfl
          by_cases hT0 : T = 0
          · by_cases hkm : k < lm.length
            · have hobt : ∃ x, lm[k]? = some x := ⟨_, List.getElem?_eq_getElem hkm⟩
              obtain ⟨x, hx⟩ := hobt
              have hxo := hm.ok x (List.mem_of_getElem? hx)
              have hobt := hm.at hx
              obtain ⟨bm, off, c0, hc0, hat⟩ := hobt
              have hx3 := Stp.cells_len hxo
              have r8 := fun {w} {Wd D} (hs : Step S1 ((l1, .loop (Loop.at r1 .busy r1.pending)) :: (b17, blk 3 [.int .i64 (k : Nat)]) :: (R0 ++ (Fx ++ (Wd ++ D)))) Wa w) => (hs.inCell (b := b8) (o := 0) (v := .slice am lm.length cm) (memF [_, _] hm8) rfl).trans (congrArg some hc0)
              by_cases hk40 : k < 40
              · by_cases k11 : x.kind = 11
                · refine CWI.seq ?_
                  refine CWI.quiet rfl (fun _ _ _ h => h) mixedP (by kernel_rfl) hs ?_
                  refine QL.val rfl (fun w hs => run_load1 ty3 rfl (r16 hs)) ?_
                  refine QL.val rfl (fun w hs => run_bT (run_eql rfl rfl) (by omega)) ?_
                  refine QL.val rfl (fun w hs => run_move) ?_
                  refine QL.yes rfl rfl rfl ?_
                  refine QL.val rfl (fun w hs => run_load1 ty3 rfl (hs.c1 (v := .int .i64 (k : Nat)) rfl)) ?_
                  refine QL.yes rfl rfl rfl ?_
                  refine QL.val rfl (fun w hs => run_load1 ty46 rfl (r8 hs)) ?_
                  refine QL.yes rfl rfl rfl ?_; refine QL.val rfl (fun w hs => run_lenSl Try.underlying46 rfl) ?_
                  refine QL.yes rfl rfl rfl ?_
                  refine QL.val rfl (fun w hs => run_bT (run_lss rfl rfl) (by omega)) ?_
                  refine QL.val rfl (fun w hs => run_pickT rfl) ?_
                  refine QL.val rfl (fun w hs => run_move) ?_
                  refine QL.yes rfl rfl rfl ?_
                  refine QL.val rfl (fun w hs => run_load1 ty3 rfl (hs.c1 (v := .int .i64 (k : Nat)) rfl)) ?_
                  refine QL.yes rfl rfl rfl ?_
                  refine QL.val rfl (fun w hs => run_bT (run_lss rfl rfl) (by omega)) ?_
                  refine QL.val rfl (fun w hs => run_pickT rfl) ?_
                  refine QL.val rfl (fun w hs => run_move) ?_
                  refine QL.yes rfl rfl rfl ?_
                  refine QL.val rfl (fun w hs => run_load1 ty46 rfl (r8 hs)) ?_
                  refine QL.yes rfl rfl rfl ?_
                  refine QL.val rfl (fun w hs => run_load1 ty3 rfl (hs.c1 (v := .int .i64 (k : Nat)) rfl)) ?_
                  refine QL.yes rfl rfl rfl ?_; (first | refine QL.val rfl (fun w hs => run_ixSlN Try.underlying46 ty48 rfl rfl (by omega)) ?_ | refine QL.val rfl (fun w hs => run_ixSl Try.underlying46 ty48 rfl rfl (by omega)) ?_)
                  refine QL.yes rfl rfl rfl ?_; refine QL.val rfl (fun w hs => run_field (o' := 0) Try.underlying48 rfl ty3 rfl rfl rfl) ?_
                  refine QL.yes rfl rfl rfl ?_
                  refine QL.val rfl (fun w hs => run_load1 ty3 rfl ((hat.step (hcl hs) (by simp)).cell (j := 0) rfl)) ?_
                  refine QL.yes rfl rfl rfl ?_
                  refine QL.val rfl (fun w hs => run_bF (run_neq rfl rfl) (by exact fun h => h k11)) ?_
                  refine QL.val rfl (fun w hs => run_pickT rfl) ?_
                  refine QL.val rfl (fun w hs => run_move) ?_
                  refine QL.no rfl rfl rfl (.inl rfl) ?_
                  refine QL.no rfl rfl rfl (.inl rfl) ?_
                  refine QL.no rfl rfl rfl (.inl rfl) ?_
                  refine QL.no rfl rfl rfl (.inl rfl) ?_
                  refine QL.no rfl rfl rfl (.inl rfl) ?_
                  refine QL.no rfl rfl rfl (.inl rfl) ?_
                  refine QL.no rfl rfl rfl (.inl rfl) ?_
                  refine QL.val rfl (fun w hs => run_pickF rfl) ?_
                  refine QL.nil (fun w hs => ?_)
                  repeat (first | refine CWI.skip ?_ | refine CWI.condF rfl ?_)
                  exact ⟨rfl, s, Wd, D, hW, ok, few.mono (by omega), hsub, hs, rfl, rfl, rfl, rfl, rfl, rfl, rfl, rfl, trivial⟩
                · have r16' := fun {w} {Wd D} (hs : Step S1 ((l1, .loop (Loop.at r1 .busy r1.pending)) :: (b17, blk 3 [.int .i64 (k : Nat)]) :: (R0 ++ (Fx ++ (Wd ++ D)))) Wa w) => hs.inCell (b := b16) (o := 0) (v := .int .i64 T) (memR [_, _] hR16) rfl
                  have hcall := fun {w} (hs : Step S1 ((l1, .loop (Loop.at r1 .busy r1.pending)) :: (b17, blk 3 [.int .i64 (k : Nat)]) :: (R0 ++ (Fx ++ (Wd ++ D)))) Wa w) => wstep_at hW ok few (by omega) (Own.live (A := (l1, .loop (Loop.at r1 .busy r1.pending)) :: (b17, blk 3 [.int .i64 (k : Nat)]) :: (R0 ++ Fx)) (by simpa only [List.cons_append, List.append_assoc] using hs)) (hcl hs) (fun p hp => memZ [_, _] hp) hxo
                  have hput : ∀ {w w' : World} {W2 D2 : List (Nat × Obj)}, Step S1 ((l1, .loop (Loop.at r1 .busy r1.pending)) :: (b17, blk 3 [.int .i64 (k : Nat)]) :: (R0 ++ (Fx ++ (Wd ++ D)))) Wa w → Step (Wd.map (·.1)) (W2 ++ D2) w w' → Step S1 ((l1, .loop (Loop.at r1 .busy r1.pending)) :: (b17, blk 3 [.int .i64 (k : Nat)]) :: (R0 ++ (Fx ++ (W2 ++ (D2 ++ D))))) Wa w' := fun {w w' W2 D2} hs hq => by
                    have h := Own.put (A := (l1, .loop (Loop.at r1 .busy r1.pending)) :: (b17, blk 3 [.int .i64 (k : Nat)]) :: (R0 ++ Fx)) (L := Wd) (D := D) (by simpa only [List.cons_append, List.append_assoc] using hs) hq
                    simpa only [List.cons_append, List.append_assoc] using h
                  refine CWI.seq ?_
                  refine CWI.any (A := fun w => ∃ Wd D, Step S1 ((l1, .loop (Loop.at r1 .busy r1.pending)) :: (b17, blk 3 [.int .i64 (k : Nat)]) :: (R0 ++ (Fx ++ (Wd ++ D)))) Wa w) (C := fun w => ∃ Wd D, Step S1 ((l1, .loop (Loop.at r1 .busy r1.pending)) :: (b17, blk 3 [.int .i64 (k : Nat)]) :: (R0 ++ (Fx ++ (Wd ++ D)))) Wa w) rfl (fun _ _ _ h => h) 26 29 mixedP rfl ?_
                  replace hs := hs.drew
                  refine AL.valA 0 rfl (by kernel_rfl) rfl (fun w hs => run_load1 ty3 rfl ((by obtain ⟨_, _, hs⟩ := hs; exact r16' hs))) ?_
                  refine AL.valA 1 rfl (by kernel_rfl) rfl (fun w hs => run_bT (run_eql rfl rfl) (by omega)) ?_
                  refine AL.valA 2 rfl (by kernel_rfl) rfl (fun w hs => run_move) ?_
                  refine AL.valAY 3 rfl (by kernel_rfl) rfl rfl rfl rfl (fun w hs => run_load1 ty3 rfl ((by obtain ⟨_, _, hs⟩ := hs; exact hs.c1 (v := .int .i64 (k : Nat)) rfl))) ?_
                  refine AL.valAY 4 rfl (by kernel_rfl) rfl rfl rfl rfl (fun w hs => run_load1 ty46 rfl ((by obtain ⟨_, _, hs⟩ := hs; exact r8 hs))) ?_
                  refine AL.valAY 5 rfl (by kernel_rfl) rfl rfl rfl rfl (fun w hs => run_lenSl Try.underlying46 rfl) ?_
                  refine AL.valAY 6 rfl (by kernel_rfl) rfl rfl rfl rfl (fun w hs => run_bT (run_lss rfl rfl) (by omega)) ?_
                  refine AL.valA 7 rfl (by kernel_rfl) rfl (fun w hs => run_pickT rfl) ?_
                  refine AL.valA 8 rfl (by kernel_rfl) rfl (fun w hs => run_move) ?_
                  refine AL.valAY 9 rfl (by kernel_rfl) rfl rfl rfl rfl (fun w hs => run_load1 ty3 rfl ((by obtain ⟨_, _, hs⟩ := hs; exact hs.c1 (v := .int .i64 (k : Nat)) rfl))) ?_
                  refine AL.valAY 10 rfl (by kernel_rfl) rfl rfl rfl rfl (fun w hs => run_bT (run_lss rfl rfl) (by omega)) ?_
                  refine AL.valA 11 rfl (by kernel_rfl) rfl (fun w hs => run_pickT rfl) ?_
                  refine AL.valA 12 rfl (by kernel_rfl) rfl (fun w hs => run_move) ?_
                  refine AL.valAY 13 rfl (by kernel_rfl) rfl rfl rfl rfl (fun w hs => run_load1 ty46 rfl ((by obtain ⟨_, _, hs⟩ := hs; exact r8 hs))) ?_
                  refine AL.valAY 14 rfl (by kernel_rfl) rfl rfl rfl rfl (fun w hs => run_load1 ty3 rfl ((by obtain ⟨_, _, hs⟩ := hs; exact hs.c1 (v := .int .i64 (k : Nat)) rfl))) ?_
                  refine AL.valAY 15 rfl (by kernel_rfl) rfl rfl rfl rfl (fun w hs => run_ixSlN Try.underlying46 ty48 rfl rfl (by omega)) ?_
                  refine AL.valAY 16 rfl (by kernel_rfl) rfl rfl rfl rfl (fun w hs => run_field (o' := 0) Try.underlying48 rfl ty3 rfl rfl rfl) ?_
                  refine AL.valAY 17 rfl (by kernel_rfl) rfl rfl rfl rfl (fun w hs => run_load1 ty3 rfl ((by obtain ⟨_, _, hs⟩ := hs; exact (hat.step (hcl hs) (by simp)).cell (j := 0) rfl))) ?_
                  refine AL.valAY 18 rfl (by kernel_rfl) rfl rfl rfl rfl (fun w hs => run_bT (run_neq rfl rfl) (by exact k11)) ?_
                  refine AL.valA 19 rfl (by kernel_rfl) rfl (fun w hs => run_pickT rfl) ?_
                  refine AL.val 20 rfl (by kernel_rfl) rfl (fun w hs => run_move) ?_
                  refine AL.valY 21 rfl (by kernel_rfl) rfl rfl rfl rfl (fun w hs => run_load1 ty57 rfl ((by obtain ⟨_, _, hs⟩ := hs; exact hs.inCell (memF [_, _] hm11) rfl))) ?_
                  refine AL.valAY 22 rfl (by kernel_rfl) rfl rfl rfl rfl (fun w hs => run_load1 ty46 rfl ((by obtain ⟨_, _, hs⟩ := hs; exact r8 hs))) ?_
                  refine AL.valAY 23 rfl (by kernel_rfl) rfl rfl rfl rfl (fun w hs => run_load1 ty3 rfl ((by obtain ⟨_, _, hs⟩ := hs; exact hs.c1 (v := .int .i64 (k : Nat)) rfl))) ?_
                  refine AL.valAY 24 rfl (by kernel_rfl) rfl rfl rfl rfl (fun w hs => run_ixSlN Try.underlying46 ty48 rfl rfl (by omega)) ?_
                  refine AL.valY 25 rfl (by kernel_rfl) rfl rfl rfl rfl (fun w hs => run_loadN ty48 rfl hx3 (by obtain ⟨_, _, hs⟩ := hs; exact hat.step (hcl hs) (by simp))) ?_
                  refine AL.one 26 (by kernel_rfl) rfl (⟨_, _, hs⟩) (⟨_, _, hs⟩) ?_
                  refine WL.yes rfl rfl rfl ?_
                  refine WL.enter rfl (run_call en32 rfl rfl) (hcall hs) ?_
                  rintro e w ⟨s2, W2, D2, rfl, hW2, ok2, few2, hk5, hq⟩
                  refine ⟨_, rfl, ?_⟩
                  replace hs := hput hs hq
                  refine WL.nil ?_
                  refine ⟨rfl, ?_⟩
                  refine AL.relax (by kernel_rfl) ?_
                  refine AL.valAY 27 rfl (by kernel_rfl) rfl rfl rfl rfl (fun w hs => run_not rfl) ?_
                  refine AL.valA 28 rfl (by kernel_rfl) rfl (fun w hs => run_pickT rfl) ?_
                  refine AL.end (by kernel_rfl) (⟨_, _, hs⟩) (trivial) ?_
                  repeat (first | refine CWI.skip ?_ | refine CWI.condF rfl ?_)
                  exact ⟨rfl, s2, W2, D2 ++ D, hW2, ok2, few2.mono (by omega), fun p hp => List.mem_append_right _ (hsub p hp), hs, rfl, rfl, rfl, rfl, rfl, rfl, rfl, rfl, trivial⟩
              · refine CWI.seq ?_
                refine CWI.quiet rfl (fun _ _ _ h => h) mixedP (by kernel_rfl) hs ?_
                refine QL.val rfl (fun w hs => run_load1 ty3 rfl (r16 hs)) ?_
                refine QL.val rfl (fun w hs => run_bT (run_eql rfl rfl) (by omega)) ?_
                refine QL.val rfl (fun w hs => run_move) ?_
                refine QL.yes rfl rfl rfl ?_
                refine QL.val rfl (fun w hs => run_load1 ty3 rfl (hs.c1 (v := .int .i64 (k : Nat)) rfl)) ?_
                refine QL.yes rfl rfl rfl ?_
                refine QL.val rfl (fun w hs => run_load1 ty46 rfl (r8 hs)) ?_
                refine QL.yes rfl rfl rfl ?_; refine QL.val rfl (fun w hs => run_lenSl Try.underlying46 rfl) ?_
                refine QL.yes rfl rfl rfl ?_
                refine QL.val rfl (fun w hs => run_bT (run_lss rfl rfl) (by omega)) ?_
                refine QL.val rfl (fun w hs => run_pickT rfl) ?_
                refine QL.val rfl (fun w hs => run_move) ?_
                refine QL.yes rfl rfl rfl ?_
                refine QL.val rfl (fun w hs => run_load1 ty3 rfl (hs.c1 (v := .int .i64 (k : Nat)) rfl)) ?_
                refine QL.yes rfl rfl rfl ?_
                refine QL.val rfl (fun w hs => run_bF (run_lss rfl rfl) (by omega)) ?_
                refine QL.val rfl (fun w hs => run_pickT rfl) ?_
                refine QL.val rfl (fun w hs => run_move) ?_
                refine QL.no rfl rfl rfl (.inl rfl) ?_
                refine QL.no rfl rfl rfl (.inl rfl) ?_
                refine QL.no rfl rfl rfl (.inl rfl) ?_
                refine QL.no rfl rfl rfl (.inl rfl) ?_
                refine QL.no rfl rfl rfl (.inl rfl) ?_
                refine QL.no rfl rfl rfl (.inl rfl) ?_
                refine QL.val rfl (fun w hs => run_pickF rfl) ?_
                refine QL.val rfl (fun w hs => run_move) ?_
                refine QL.no rfl rfl rfl (.inl rfl) ?_
                refine QL.no rfl rfl rfl (.inl rfl) ?_
                refine QL.no rfl rfl rfl (.inl rfl) ?_
                refine QL.no rfl rfl rfl (.inl rfl) ?_
                refine QL.no rfl rfl rfl (.inl rfl) ?_
                refine QL.no rfl rfl rfl (.inl rfl) ?_
                refine QL.no rfl rfl rfl (.inl rfl) ?_
                refine QL.val rfl (fun w hs => run_pickF rfl) ?_
                refine QL.nil (fun w hs => ?_)
                repeat (first | refine CWI.skip ?_ | refine CWI.condF rfl ?_)
                exact ⟨rfl, s, Wd, D, hW, ok, few.mono (by omega), hsub, hs, rfl, rfl, rfl, rfl, rfl, rfl, rfl, rfl, trivial⟩
            · refine CWI.seq ?_
              refine CWI.quiet rfl (fun _ _ _ h => h) mixedP (by kernel_rfl) hs ?_
              refine QL.val rfl (fun w hs => run_load1 ty3 rfl (r16 hs)) ?_
              refine QL.val rfl (fun w hs => run_bT (run_eql rfl rfl) (by omega)) ?_
              refine QL.val rfl (fun w hs => run_move) ?_
              refine QL.yes rfl rfl rfl ?_
              refine QL.val rfl (fun w hs => run_load1 ty3 rfl (hs.c1 (v := .int .i64 (k : Nat)) rfl)) ?_
              refine QL.yes rfl rfl rfl ?_
              refine QL.val rfl (fun w hs => run_load1 ty46 rfl ((hs.inCell (b := b8) (o := 0) (v := .slice am lm.length cm) (memF [_, _] hm8) rfl))) ?_
              refine QL.yes rfl rfl rfl ?_; refine QL.val rfl (fun w hs => run_lenSl Try.underlying46 rfl) ?_
              refine QL.yes rfl rfl rfl ?_
              refine QL.val rfl (fun w hs => run_bF (run_lss rfl rfl) (by omega)) ?_
              refine QL.val rfl (fun w hs => run_pickT rfl) ?_
              refine QL.val rfl (fun w hs => run_move) ?_
              refine QL.no rfl rfl rfl (.inl rfl) ?_
              refine QL.no rfl rfl rfl (.inl rfl) ?_
              refine QL.val rfl (fun w hs => run_pickF rfl) ?_
              refine QL.val rfl (fun w hs => run_move) ?_
              refine QL.no rfl rfl rfl (.inl rfl) ?_
              refine QL.no rfl rfl rfl (.inl rfl) ?_
              refine QL.no rfl rfl rfl (.inl rfl) ?_
              refine QL.no rfl rfl rfl (.inl rfl) ?_
              refine QL.no rfl rfl rfl (.inl rfl) ?_
              refine QL.no rfl rfl rfl (.inl rfl) ?_
              refine QL.val rfl (fun w hs => run_pickF rfl) ?_
              refine QL.val rfl (fun w hs => run_move) ?_
              refine QL.no rfl rfl rfl (.inl rfl) ?_
              refine QL.no rfl rfl rfl (.inl rfl) ?_
              refine QL.no rfl rfl rfl (.inl rfl) ?_
              refine QL.no rfl rfl rfl (.inl rfl) ?_
              refine QL.no rfl rfl rfl (.inl rfl) ?_
              refine QL.no rfl rfl rfl (.inl rfl) ?_
              refine QL.no rfl rfl rfl (.inl rfl) ?_
              refine QL.val rfl (fun w hs => run_pickF rfl) ?_
              refine QL.nil (fun w hs => ?_)
              repeat (first | refine CWI.skip ?_ | refine CWI.condF rfl ?_)
              exact ⟨rfl, s, Wd, D, hW, ok, few.mono (by omega), hsub, hs, rfl, rfl, rfl, rfl, rfl, rfl, rfl, rfl, trivial⟩
          · refine CWI.seq ?_
            refine CWI.quiet rfl (fun _ _ _ h => h) mixedP (by kernel_rfl) hs ?_
            refine QL.val rfl (fun w hs => run_load1 ty3 rfl (r16 hs)) ?_
            refine QL.val rfl (fun w hs => run_bF (run_eql rfl rfl) (by omega)) ?_
            refine QL.val rfl (fun w hs => run_move) ?_
            refine QL.no rfl rfl rfl (.inl rfl) ?_
            refine QL.no rfl rfl rfl (.inl rfl) ?_
            refine QL.no rfl rfl rfl (.inl rfl) ?_
            refine QL.no rfl rfl rfl (.inl rfl) ?_
            refine QL.val rfl (fun w hs => run_pickF rfl) ?_
            refine QL.val rfl (fun w hs => run_move) ?_
            refine QL.no rfl rfl rfl (.inl rfl) ?_
            refine QL.no rfl rfl rfl (.inl rfl) ?_
            refine QL.val rfl (fun w hs => run_pickF rfl) ?_
            refine QL.val rfl (fun w hs => run_move) ?_
            refine QL.no rfl rfl rfl (.inl rfl) ?_
            refine QL.no rfl rfl rfl (.inl rfl) ?_
            refine QL.no rfl rfl rfl (.inl rfl) ?_
            refine QL.no rfl rfl rfl (.inl rfl) ?_
            refine QL.no rfl rfl rfl (.inl rfl) ?_
            refine QL.no rfl rfl rfl (.inl rfl) ?_
            refine QL.val rfl (fun w hs => run_pickF rfl) ?_
            refine QL.val rfl (fun w hs => run_move) ?_
            refine QL.no rfl rfl rfl (.inl rfl) ?_
            refine QL.no rfl rfl rfl (.inl rfl) ?_
            refine QL.no rfl rfl rfl (.inl rfl) ?_
            refine QL.no rfl rfl rfl (.inl rfl) ?_
            refine QL.no rfl rfl rfl (.inl rfl) ?_
            refine QL.no rfl rfl rfl (.inl rfl) ?_
            refine QL.no rfl rfl rfl (.inl rfl) ?_
            refine QL.val rfl (fun w hs => run_pickF rfl) ?_
            refine QL.nil (fun w hs => ?_)
            repeat (first | refine CWI.skip ?_ | refine CWI.condF rfl ?_)
            exact ⟨rfl, s, Wd, D, hW, ok, few.mono (by omega), hsub, hs, rfl, rfl, rfl, rfl, rfl, rfl, rfl, rfl, trivial⟩
        clear hs hf hW ok few hsub
        rintro f w ⟨s, Wd, D, hW, ok, few, hsub, hs, hf⟩
        have hobt := hf.chain
        obtain ⟨g, rfl⟩ := hobt
        refine CWI.seq ?_
        refine CWI.reg rfl (fun _ _ _ h => h) ?_
        refine WL.val rfl (run_load1 ty3 rfl (hs.c1 (v := .int .i64 (k : Nat)) rfl)) ?_
        refine WL.val rfl (run_add (c := ((k + 1 : Nat) : Int)) rfl rfl (by omega) (by omega)) ?_
        refine WL.store1_1 ty3 rfl rfl (rfl) hs (by first | (simp; done) | omega | (simp only [List.length_append, List.length_replicate, List.length_cons, List.length_nil, List.length_set]; omega) | (simp [Ent.cells, u8s]; done) | exact Nat.le_of_ble_eq_true rfl) (fun w hs => ?_)
        refine WL.nil ?_
        replace hs : Step S1 ((l1, .loop (Loop.at r1 .busy r1.pending)) :: (b17, blk 3 [.int .i64 (k + 1 : Nat)]) :: (R0 ++ (Fx ++ (Wd ++ D)))) Wa w := hs
        by_cases hbr : T = 0 ∧ ((k + 1 : Nat) : Int) = st
        · obtain ⟨hT0, hst2⟩ := hbr
          refine CWI.seq ?_
          refine CWI.reg rfl (fun _ _ _ h => h) ?_
          refine WL.val rfl (run_load1 ty3 rfl ((hs.inCell (memR [_, _] hR16) rfl))) ?_
          refine WL.val rfl (run_bT (run_eql rfl rfl) (by omega)) ?_
          refine WL.val rfl (run_move) ?_
          refine WL.yes rfl rfl rfl ?_
          refine WL.val rfl (run_load1 ty3 rfl (hs.c1 (v := .int .i64 (k + 1 : Nat)) rfl)) ?_
          refine WL.yes rfl rfl rfl ?_
          refine WL.val rfl (run_load1 ty3 rfl ((hs.inCell (memF [_, _] hm9) rfl))) ?_
          refine WL.yes rfl rfl rfl ?_
          refine WL.val rfl (run_bT (run_eql rfl rfl) (by exact hst2)) ?_
          refine WL.val rfl (run_pickT rfl) ?_
          refine WL.nil ?_
          repeat (first | refine CWI.exit ?_ | refine CWI.condT rfl ?_)
          refine ⟨_, _, _, _, hs, fun w' hs' => ?_⟩
          show (if false = true then _ else _)
          rw [if_neg (by simp)]
          exact ⟨k, s, Wd, D, hkl, hT0, hW, ok, few.mono (by omega), hsub, hcl hs'⟩
        · by_cases hT0 : T = 0
          · refine CWI.seq ?_
            refine CWI.reg rfl (fun _ _ _ h => h) ?_
            refine WL.val rfl (run_load1 ty3 rfl ((hs.inCell (memR [_, _] hR16) rfl))) ?_
            refine WL.val rfl (run_bT (run_eql rfl rfl) (by omega)) ?_
            refine WL.val rfl (run_move) ?_
            refine WL.yes rfl rfl rfl ?_
            refine WL.val rfl (run_load1 ty3 rfl (hs.c1 (v := .int .i64 (k + 1 : Nat)) rfl)) ?_
            refine WL.yes rfl rfl rfl ?_
            refine WL.val rfl (run_load1 ty3 rfl ((hs.inCell (memF [_, _] hm9) rfl))) ?_
            refine WL.yes rfl rfl rfl ?_
            refine WL.val rfl (run_bF (run_eql rfl rfl) (by exact fun h => hbr ⟨hT0, h⟩)) ?_
            refine WL.val rfl (run_pickT rfl) ?_
            refine WL.nil ?_
            repeat (first | refine CWI.skip ?_ | refine CWI.condF rfl ?_)
            refine ⟨_, _, _, _, hs, fun w' hs' => ?_⟩
            rw [Loop.at_back hrs1 hrp1] at hs'
            rw [if_pos rfl]
            replace hs' : Step S1 ((l1, .loop r1) :: (b17, blk 3 [.int .i64 (k + 1 : Nat)]) :: (R0 ++ (Fx ++ (Wd ++ D)))) Wa w' := hs'
            have h5 := hcl hs'
            rw [← hS0] at hs'
            exact ⟨_, hs', by omega, s, Wd, D, rfl, hW, ok, few, hsub, h5⟩
          · refine CWI.seq ?_
            refine CWI.reg rfl (fun _ _ _ h => h) ?_
            refine WL.val rfl (run_load1 ty3 rfl ((hs.inCell (memR [_, _] hR16) rfl))) ?_
            refine WL.val rfl (run_bF (run_eql rfl rfl) (by omega)) ?_
            refine WL.val rfl (run_move) ?_
            refine WL.no rfl rfl rfl (.inl rfl) ?_
            refine WL.no rfl rfl rfl (.inl rfl) ?_
            refine WL.no rfl rfl rfl (.inl rfl) ?_
            refine WL.val rfl (run_pickF rfl) ?_
            refine WL.nil ?_
            repeat (first | refine CWI.skip ?_ | refine CWI.condF rfl ?_)
            refine ⟨_, _, _, _, hs, fun w' hs' => ?_⟩
            rw [Loop.at_back hrs1 hrp1] at hs'
            rw [if_pos rfl]
            replace hs' : Step S1 ((l1, .loop r1) :: (b17, blk 3 [.int .i64 (k + 1 : Nat)]) :: (R0 ++ (Fx ++ (Wd ++ D)))) Wa w' := hs'
            have h5 := hcl hs'
            rw [← hS0] at hs'
            exact ⟨_, hs', by omega, s, Wd, D, rfl, hW, ok, few, hsub, h5⟩
      · clear hs2 hW ok few hsub
        rintro e W5 ⟨hret, ⟨L, hk, s, Wd, D, rfl, hW, ok, few, hsub, hs5⟩ | ⟨k, s, Wd, D, hk, hT0, hW, ok, few, hsub, hs5⟩⟩
        · rw [hlx] at hs5 few
          refine ⟨hret, behind_none hs5 hrs1 hrp1 fun w hs => ?_⟩
          by_cases hT1 : T = 1
          · refine CW.seq ?_
            refine CW.reg ?_
            refine WL.val rfl (run_load1 ty3 rfl ((hs.inCell (memR [_, _] hR16) rfl))) ?_
            refine WL.val rfl (run_bT (run_eql rfl rfl) (by omega)) ?_
            refine WL.val rfl (run_move) ?_
            refine WL.yes rfl rfl rfl ?_
            refine WL.val rfl (run_load1 ty3 rfl (hs.c1 (v := .int .i64 (s0.X.length : Nat)) rfl)) ?_
            refine WL.yes rfl rfl rfl ?_
            refine WL.val rfl (run_load1 ty68 rfl ((hs.inCell (memF [_, _] hm14) rfl))) ?_
            refine WL.yes rfl rfl rfl ?_; refine WL.val rfl (run_lenSl Try.underlying68 rfl) ?_
            refine WL.yes rfl rfl rfl ?_
            refine WL.val rfl (run_bF (run_neq rfl rfl) (by exact fun h => h rfl)) ?_
            refine WL.val rfl (run_pickT rfl) ?_
            refine WL.nil ?_
            repeat (first | refine CW.seq ?_ | refine CW.skip ?_ | refine CW.condF rfl ?_)
            refine CW.reg ?_
            refine WL.val rfl (run_load1 ty3 rfl ((hs.inCell (memR [_, _] hR16) rfl))) ?_
            refine WL.nil ?_
            refine CW.reg ?_
            refine WL.alloc ty3 rfl hs (fun b16 w hs => ?_)
            refine WL.store1 ty3 rfl rfl (rfl) hs (by first | (simp; done) | omega | (simp only [List.length_append, List.length_replicate, List.length_cons, List.length_nil, List.length_set]; omega) | (simp [Ent.cells, u8s]; done) | exact Nat.le_of_ble_eq_true rfl) (fun w hs => ?_)
            refine WL.nil ?_
            refine CW.reg ?_
            refine WL.val rfl (run_load1 ty3 rfl (hs.c0 rfl)) ?_
            refine WL.val rfl (run_add (c := ((T + 1 : Nat) : Int)) rfl rfl (by omega) (by omega)) ?_
            refine WL.store1 ty3 rfl rfl (rfl) hs (by first | (simp; done) | omega | (simp only [List.length_append, List.length_replicate, List.length_cons, List.length_nil, List.length_set]; omega) | (simp [Ent.cells, u8s]; done) | exact Nat.le_of_ble_eq_true rfl) (fun w hs => ?_)
            refine WL.nil ?_
            rw [← hR] at hs
            replace hs := Step.dropX (A := [_]) (Step.dropX (A := [_]) hs)
            replace hs := (Step.dropX (A := [_, _]) hs).perm ((List.Perm.swap _ _ _).cons _)
            refine (show ∃ m', _ ∧ _ from ⟨2 - (T + 1), by omega, T + 1, b0 :: bs, b16, s, Wd, D, by omega, rfl, rfl, hW, ok, few.mono (by omega), hsub, hs, rfl, rfl, rfl, rfl, rfl, rfl, rfl, trivial⟩)
          · refine CW.seq ?_
            refine CW.reg ?_
            refine WL.val rfl (run_load1 ty3 rfl ((hs.inCell (memR [_, _] hR16) rfl))) ?_
            refine WL.val rfl (run_bF (run_eql rfl rfl) (by omega)) ?_
            refine WL.val rfl (run_move) ?_
            refine WL.no rfl rfl rfl (.inl rfl) ?_
            refine WL.no rfl rfl rfl (.inl rfl) ?_
            refine WL.no rfl rfl rfl (.inl rfl) ?_
            refine WL.no rfl rfl rfl (.inl rfl) ?_
            refine WL.val rfl (run_pickF rfl) ?_
            refine WL.nil ?_
            repeat (first | refine CW.seq ?_ | refine CW.skip ?_ | refine CW.condF rfl ?_)
            refine CW.reg ?_
            refine WL.val rfl (run_load1 ty3 rfl ((hs.inCell (memR [_, _] hR16) rfl))) ?_
            refine WL.nil ?_
            refine CW.reg ?_
            refine WL.alloc ty3 rfl hs (fun b16 w hs => ?_)
            refine WL.store1 ty3 rfl rfl (rfl) hs (by first | (simp; done) | omega | (simp only [List.length_append, List.length_replicate, List.length_cons, List.length_nil, List.length_set]; omega) | (simp [Ent.cells, u8s]; done) | exact Nat.le_of_ble_eq_true rfl) (fun w hs => ?_)
            refine WL.nil ?_
            refine CW.reg ?_
            refine WL.val rfl (run_load1 ty3 rfl (hs.c0 rfl)) ?_
            refine WL.val rfl (run_add (c := ((T + 1 : Nat) : Int)) rfl rfl (by omega) (by omega)) ?_
            refine WL.store1 ty3 rfl rfl (rfl) hs (by first | (simp; done) | omega | (simp only [List.length_append, List.length_replicate, List.length_cons, List.length_nil, List.length_set]; omega) | (simp [Ent.cells, u8s]; done) | exact Nat.le_of_ble_eq_true rfl) (fun w hs => ?_)
            refine WL.nil ?_
            rw [← hR] at hs
            replace hs := Step.dropX (A := [_]) (Step.dropX (A := [_]) hs)
            replace hs := (Step.dropX (A := [_, _]) hs).perm ((List.Perm.swap _ _ _).cons _)
            refine (show ∃ m', _ ∧ _ from ⟨2 - (T + 1), by omega, T + 1, b0 :: bs, b16, s, Wd, D, by omega, rfl, rfl, hW, ok, few.mono (by omega), hsub, hs, rfl, rfl, rfl, rfl, rfl, rfl, rfl, trivial⟩)
        · refine ⟨hret, behind_some hs5 rfl rfl fun w hs => ?_⟩
          refine CWI.exit ?_
          refine CW.seq ?_
          refine CW.reg ?_
          refine WL.val rfl (run_load1 ty3 rfl ((hs.inCell (memR [_, _] hR16) rfl))) ?_
          refine WL.val rfl (run_bF (run_eql rfl rfl) (by omega)) ?_
          refine WL.val rfl (run_move) ?_
          refine WL.no rfl rfl rfl (.inl rfl) ?_
          refine WL.no rfl rfl rfl (.inl rfl) ?_
          refine WL.no rfl rfl rfl (.inl rfl) ?_
          refine WL.no rfl rfl rfl (.inl rfl) ?_
          refine WL.val rfl (run_pickF rfl) ?_
          refine WL.nil ?_
          repeat (first | refine CW.seq ?_ | refine CW.skip ?_ | refine CW.condF rfl ?_)
          refine CW.reg ?_
          refine WL.val rfl (run_load1 ty3 rfl ((hs.inCell (memR [_, _] hR16) rfl))) ?_
          refine WL.nil ?_
          refine CW.reg ?_
          refine WL.alloc ty3 rfl hs (fun b16 w hs => ?_)
          refine WL.store1 ty3 rfl rfl (rfl) hs (by first | (simp; done) | omega | (simp only [List.length_append, List.length_replicate, List.length_cons, List.length_nil, List.length_set]; omega) | (simp [Ent.cells, u8s]; done) | exact Nat.le_of_ble_eq_true rfl) (fun w hs => ?_)
          refine WL.nil ?_
          refine CW.reg ?_
          refine WL.val rfl (run_load1 ty3 rfl (hs.c0 rfl)) ?_
          refine WL.val rfl (run_add (c := ((T + 1 : Nat) : Int)) rfl rfl (by omega) (by omega)) ?_
          refine WL.store1 ty3 rfl rfl (rfl) hs (by first | (simp; done) | omega | (simp only [List.length_append, List.length_replicate, List.length_cons, List.length_nil, List.length_set]; omega) | (simp [Ent.cells, u8s]; done) | exact Nat.le_of_ble_eq_true rfl) (fun w hs => ?_)
          refine WL.nil ?_
          rw [← hR] at hs
          replace hs := Step.dropX (A := [_]) (Step.dropX (A := [_]) hs)
          replace hs := (Step.dropX (A := [_, _]) hs).perm ((List.Perm.swap _ _ _).cons _)
          refine (show ∃ m', _ ∧ _ from ⟨2 - (T + 1), by omega, T + 1, b0 :: bs, b16, s, Wd, D, by omega, rfl, rfl, hW, ok, few.mono (by omega), hsub, hs, rfl, rfl, rfl, rfl, rfl, rfl, rfl, trivial⟩)
    · cases h
  · obtain rfl : T = 2 := by omega
    refine CW.seq <| CW.seq ?_
    refine CW.reg ?_
    refine WL.val rfl (run_load1 ty3 rfl (hs.c0 rfl)) ?_
    refine WL.val rfl (run_bF (run_lss rfl rfl) (by omega)) ?_
    refine WL.nil ?_
    have hobt := hW.open
    obtain ⟨bp, br, vI, Lp, Lr, hR, hT', hmw, ho⟩ := hobt
    have hlv := fun {w} (hs : Step [] ((b16, blk 3 [.int .i64 (2 : Nat)]) :: (b10, blk 4 [.bool false]) :: (marksO bs ++ (Fx ++ (Wd ++ D)))) w0 w) => ho (Own.live (A := (b16, blk 3 [.int .i64 (2 : Nat)]) :: (b10, blk 4 [.bool false]) :: (marksO bs ++ Fx)) (by simpa only [List.cons_append, List.append_assoc] using hs))
    repeat (first | refine CW.seq ?_ | refine CW.exit ?_ | refine CW.condF rfl ?_)
    refine CW.quietT (l1 := [_, _, _, _, _, _, _, _, _, _, _, _]) (l2 := [_]) 12 rfl mixedP rfl (by kernel_rfl) hs ?_
    refine QL.val rfl (fun w hs => run_load1 ty57 rfl ((hs.inCell (memF [_, _] hm11) rfl))) ?_
    refine QL.val rfl (fun w hs => run_nilCheck rfl) ?_
    refine QL.val rfl (fun w hs => run_field (o' := 0) Try.underlying64 rfl ty24 rfl rfl rfl) ?_
    refine QL.val rfl (fun w hs => run_load1 ty24 rfl ((hlv hs).2.2.1)) ?_
    refine QL.val rfl (fun w hs => run_load1 ty57 rfl ((hs.inCell (memF [_, _] hm11) rfl))) ?_
    refine QL.val rfl (fun w hs => run_nilCheck rfl) ?_
    refine QL.val rfl (fun w hs => run_field (o' := 1) Try.underlying64 rfl ty62 rfl rfl rfl) ?_
    refine QL.val rfl (fun w hs => run_load1 ty62 rfl ((hlv hs).2.2.2)) ?_
    refine QL.enter rfl (fun w => run_call en33 rfl rfl) (fun w hs => alike_spec hR hT' ok (hlv hs).1 (hlv hs).2.1) ?_
    refine QL.val rfl (fun w hs => run_move) ?_
    refine QL.yes rfl rfl rfl ?_
    refine QL.enter rfl (fun w => run_call en10 rfl rfl) (fun w hs => head_spec _) ?_
    refine QL.val rfl (fun w hs => run_pickT rfl) ?_
    refine QL.nil (fun w hs => ?_)
    refine WL.store1_1 ty4 rfl rfl (rfl) hs (by first | (simp; done) | omega | (simp only [List.length_append, List.length_replicate, List.length_cons, List.length_nil, List.length_set]; omega) | (simp [Ent.cells, u8s]; done) | exact Nat.le_of_ble_eq_true rfl) (fun w hs => ?_)
    refine WL.nil ?_
    refine CW.ret ?_
    have hpm : ((b16, blk 3 [.int .i64 (2 : Nat)]) :: (b10, blk 4 [.bool true]) :: (marksO bs ++ (Fx ++ (Wd ++ D)))).Perm (marksO bs ++ ((b16, blk 3 [.int .i64 (2 : Nat)]) :: (b10, blk 4 [.bool true]) :: (Fx ++ (Wd ++ D)))) :=
      (List.Perm.cons _ List.perm_middle.symm).trans List.perm_middle.symm
    replace hs : Step [] ((b16, blk 3 [.int .i64 (2 : Nat)]) :: (b10, blk 4 [.bool true]) :: (marksO bs ++ (Fx ++ (Wd ++ D)))) w0 w := hs
    exact finM_ret (bs := bs) (.inl rfl) (hs.perm hpm) fun a ha w' hs' => ⟨_, res_cell1 ha rfl rfl (run_loadVar1 ty4 (hs'.inCell (List.mem_append_right _ (List.mem_cons_of_mem _ List.mem_cons_self)) rfl)), rfl, hs'.clear⟩
end Go.Gx
/-! CasAlls -/
namespace Go.Proofs.Ytakhjiecinpmiaa.casAlls
open Go.ChangeShapes Go.WideShapes Go.ChangeAt Go.RowKit
set_option linter.unusedVariables false

theorem own : ownKnob Try.prog.godebug = none := by kernel_rfl
theorem laid : laidOutB Try.prog = true := by kernel_rfl

set_option maxRecDepth 100000 in
theorem lifted (os : Os) (started : os.Started) (H : Type) (enc : TypeId × Value → H) :
    ReturnsInHanded {} Try.checked os 8 .any (Rows.casAllsSpec.pre6 enc Try.prog Try.f8 Rows.casAllsRow.domain false) (Rows.casAllsSpec.post enc Try.prog Try.f8 false true false false) := by
  refine returnsInHanded_of_change (C := Try.checked) own started (by kernel_rfl) Try.func8
    (ChangeSpec.witness6 (enc := enc) (C := Try.checked) false ⟨#[], #[.int .i64 0, .int .i64 0, .slice none 0 0, .slice none 0 0, .int .i64 0], []⟩ 12 (by kernel_rfl) (by kernel_rfl) (by kernel_rfl) (by kernel_rfl)) ?_
  intro W base args ds gs before hval0 hW hcnd _
  have hval : ∀ (j : Nat) t v, Try.f8.params[j]? = some t → args[j]? = some v → Value.okWide Try.prog W .any base t v := hval0
  have hW' := hW
  obtain ⟨p, q, hA0, hV, rfl, hfz, hnd⟩ := hW
  have hA : DataW.TrodAll enc Try.prog W 0 (fun _ => true) true Try.f8.params.toList args.toList ds p := hA0
  rw [Try.params8] at hA hval
  obtain ⟨rfl, rfl⟩ := trodVars_none hV
  obtain ⟨vs, hargs, hA⟩ : ∃ vs, args = vs.toArray ∧ DataW.TrodAll enc Try.prog W 0 (fun _ => true) true [3, 3, 46, 46, 3] vs ds p := ⟨args.toList, rfl, hA⟩
  obtain rfl := hargs
  have hA1 := hA
  obtain ⟨v0, vs0, d0, ds0, p0, q0, rfl, rfl, rfl, h0, hA⟩ := trodAll_cons hA
  obtain ⟨v1, vs1, d1, ds1, p1, q1, rfl, rfl, rfl, h1, hA⟩ := trodAll_cons hA
  obtain ⟨v2, vs2, d2, ds2, p2, q2, rfl, rfl, rfl, h2, hA⟩ := trodAll_cons hA
  obtain ⟨v3, vs3, d3, ds3, p3, q3, rfl, rfl, rfl, h3, hA⟩ := trodAll_cons hA
  obtain ⟨v4, vs4, d4, ds4, p4, q4, rfl, rfl, rfl, h4, hA⟩ := trodAll_cons hA
  obtain ⟨rfl, rfl, rfl⟩ := trodAll_nil hA
  clear hA hval0
  simp only [List.append_nil] at hW' hA1 hfz hnd
  obtain ⟨n0, hv0, hn0⟩ := Go.Gx.open_i64 (hval 0 3 v0 rfl rfl) h0
  obtain ⟨n1, hv1, hn1⟩ := Go.Gx.open_i64 (hval 1 3 v1 rfl rfl) h1
  obtain ⟨l2, he2, hr2, hn2⟩ := Go.Gx.open_steps (hval 2 46 v2 rfl rfl) h2
  obtain ⟨l3, he3, hr3, hn3⟩ := Go.Gx.open_steps (hval 3 46 v3 rfl rfl) h3
  obtain ⟨n4, hv4, hn4⟩ := Go.Gx.open_i64 (hval 4 3 v4 rfl rfl) h4
  subst hv0
  subst hv1
  subst hv4
  refine (Go.Gx.casalls_spec W he2 he3).mono fun e W' ⟨he, hg⟩ => ?_
  subst he
  have hb := hg.below
  have hlt := fun x hx => hW'.lt x hx
  have hst := Go.Gx.trodAll_stays laid hb hA1 (by simpa using hlt) (by intro t ht; simp only [List.mem_cons, List.not_mem_nil, or_false] at ht; rcases ht with rfl | rfl | rfl | rfl | rfl <;> exact ⟨by kernel_rfl, of_decide_eq_true (by kernel_rfl)⟩)
  refine ⟨_, rfl, [d0, d1, d2, d3, d4], [], _, [], _, [], hW', trodAll_cons_mk (shut_bool Try.underlying4 _) trodAll_mk0, hst, rfl, hb.frame _, fun h => by cases h⟩

theorem over : Rows.casAllsRow.holds Try.pinned (OpenSpec.ofChange Rows.casAllsSpec) :=
  OpenClaim.holds_of_wide 8 Try.f8 rfl rfl rfl rfl rfl rfl rfl ⟨rfl, rfl, rfl, rfl, rfl⟩ rfl rfl rfl rfl rfl (by kernel_rfl) Try.func8 (by kernel_rfl)
    (of_decide_eq_true (by kernel_rfl)) (by unfold Func.isWrapper; first | (rw [if_pos (by decide +kernel)]; kernel_rfl) | (rw [if_neg (by decide +kernel)]; exact ⟨rfl, rfl⟩))
    (fun os started H enc _ => lifted os started H enc)

/-- The statement. -/
theorem proved : Rows.CasAllsSaid :=
  over
#print axioms proved
end Go.Proofs.Ytakhjiecinpmiaa.casAlls
