/- An argument of numbers, opened. CasApart, walked. CasApartSaid: two Stores in turns do not see one another, also where the second one is the first one's Twin; each answers as the document's: the law returns true, the arguments read as they did; no condition. -/
import Derived.Test.YtakhjiecinpmiaaP1
import Derived.Test.YtakhjiecinpmiaaM6
/-! Nums -/
namespace Go.Gx
open Go.Proofs Go.ChangeShapes Go.WideShapes Go.ChangeAt Go.RowKit Go.Deep
open Go.Proofs.Ytakhjiecinpmiaa (Rows.uptoBulk Rows.uptoBulkAll)
set_option linter.unusedVariables false
set_option linter.unusedSimpArgs false
set_option maxRecDepth 100000
def nums (l : List Int) : List Value := l.map fun z => .int .i64 z
/-- Numbers as a value. -/
structure Nums (w : World) (v : Value) (l : List Int) : Prop where
  sl : Sl w 1 v l.length (nums l)
  rng : ∀ z ∈ l, -9223372036854775808 ≤ z ∧ z ≤ 9223372036854775807
  len : l.length ≤ 9223372036854775807
section
variable {H : Type} {enc : TypeId × Value → H} {w : World} {spare : Nat → Bool} {held : Bool}
theorem open_nums {v : Value} {d : DataW H} {ps : List MemPlace} {r : Reach} {b0 : Nat} (hval : Value.okWide Try.prog w r b0 78 v) (h : DataW.Trod enc Try.prog w 0 spare held 78 v d ps) : ∃ l : List Int, Nums w v l ∧ Room v ∧ (Rows.uptoBulk d ≤ 1048576 → l.length ≤ 1048576) := by
  obtain ⟨fuel, h⟩ := h
  have hobt := okWide_slice Try.underlying78 hval
  obtain ⟨a0, len, cap, rfl⟩ := hobt
  have hc1 : Try.prog.cellsOf 3 = 1 := ty3.cellsOf
  rcases ChangeShapes.open_ints (k := .i64) Try.underlying78 Try.underlying3 hc1 h with ⟨hc, _⟩ | ⟨a, len', cap', zs, hc, _, hlc, hcm, hm, hx, hi, hwf⟩
  · have : Value.slice a0 len cap = .slice none 0 0 := by simpa [Value.cells] using hc
    cases this
    exact ⟨[], ⟨Sl.nil _ _ _, fun z hz => (by cases hz), by simp⟩, Nat.le_refl 0, fun _ => by simp⟩
  · have : Value.slice a0 len cap = .slice (some a) len' cap' := by simpa [Value.cells] using hc
    cases this
    have hspot : a.spot = none := by
      simp only [Value.okWide, Try.underlying78, Cell.okWide, Cell.ok] at hval
      exact hval.2.2.2.1
    obtain ⟨b, off, sp⟩ := a
    simp only at hspot
    subst hspot
    have hle : len ≤ zs.length := by rw [hm]; split <;> omega
    have hd : d = _ := congrArg Prod.fst hx
    have hmx : maxLen = 9223372036854775807 := by decide
    have hlen := bulk_len (H := H) (lits .i64 (zs.take len))
    have hll : (lits (H := H) .i64 (zs.take len)).length = len := by simp [lits]; omega
    have hl2 : (zs.take len).length = len := by simp; omega
    refine ⟨zs.take len, ⟨?_, fun z hz => ?_, by omega⟩, hlc, fun hb => by rw [hd] at hb; simp only [Rows.uptoBulk] at hb; omega⟩
    · rw [hl2]
      refine .mk (by simp [nums]; omega) ?_
      intro j v hj
      rw [nums, List.getElem?_map] at hj
      cases hz : (zs.take len)[j]? with
      | none => rw [hz] at hj; cases hj
      | some n =>
        rw [hz] at hj
        obtain rfl : Value.int .i64 n = v := by simpa using hj
        have hjl : j < len := by
          have := (List.getElem?_eq_some_iff.1 hz).1
          omega
        have h2 := hi j (by omega)
        rw [add_off] at h2
        rw [h2]
        rw [List.getElem?_take, if_pos hjl] at hz
        simp [List.getD, hz]
    · have hw := hwf z (List.mem_of_mem_take hz)
      simp only [Lit.wf, Bool.and_eq_true, decide_eq_true_eq] at hw
      have h0 : (IntKind.i64).min = -9223372036854775808 := by decide
      have h255 : (IntKind.i64).max = 9223372036854775807 := by decide
      rw [h0, h255] at hw
      exact hw
theorem Nums.at {v : Value} {l : List Int} (h : Nums w v l) {i : Nat} (hi : i < l.length) : ∃ b off c, v = .slice (some ⟨b, off, none⟩) l.length c ∧ At w b (off + i * 1) [.int .i64 l[i]] := by
  have hobt := h.sl
  obtain ⟨hl, ⟨a, c, hc, h1⟩ | ⟨b, off, c, hc, hat⟩⟩ := hobt
  · omega
  · refine ⟨b, off, c, hc, ?_⟩
    have h2 := (hat.drop i).take 1
    rw [nums, ← List.map_drop, List.drop_eq_getElem_cons hi] at h2
    rw [Nat.mul_one]
    exact h2
end
end Go.Gx
/-! ApartW -/
namespace Go.Gx
open Go.Proofs
set_option linter.unusedVariables false
set_option linter.unusedSimpArgs false
set_option maxRecDepth 100000
attribute [local irreducible] shaL cutD frontL
theorem WRep.open {bw : Nat} {s : AS} {D W : List (Nat × Obj)} (h : WRep bw s D W) : ∃ bp br vI L R, PRep bp s D L ∧ RRep br s D R ∧ (bw, blk 64 (woC bp br vI)) ∈ W ∧ ∀ {w : World}, Lives (W ++ D) w → Lives (L ++ D) w ∧ Lives (R ++ D) w ∧ w.cell? ⟨bw, 0, none⟩ = some (.pointer (some ⟨bp, 0, none⟩)) ∧ w.cell? ⟨bw, 1, none⟩ = some (.pointer (some ⟨br, 0, none⟩)) := by
  obtain ⟨bp, br, vI, Lm, L, R, rfl, hI, hR, hT⟩ := h
  refine ⟨bp, br, vI, L, R, hR, hT, by simp, fun {w} hw => ?_⟩
  have hs := WRep.start hw
  refine ⟨Two.live (A := _ :: Lm) hs, Two.rlive (A := _ :: Lm) hs, ?_, ?_⟩
  · rw [cell_blk hs.hd]; rfl
  · rw [cell_blk hs.hd]; rfl
theorem mem_skip {α : Type} {A B C : List α} {p : α} (h : p ∈ A ++ C) : p ∈ A ++ (B ++ C) := by
  simp only [List.mem_append] at h ⊢
  rcases h with h | h <;> simp [h]
theorem wstep_at {bw : Nat} {s : AS} {D W X : List (Nat × Obj)} {n : Nat} {x : Stp} {w0 w : World} (hW : WRep bw s D W) (ok : s.Ok) (few : s.Few n) (hn : n < 1099511627775) (hw : Lives (W ++ D) w) (hs : Step [] X w0 w) (hX : ∀ p ∈ W ++ D, p ∈ X) (hx : x.Ok w0) :
    Calls Try.prog 32 #[.pointer (some ⟨bw, 0, none⟩), .agg x.cells.toArray] w (WPost bw s D W n w) :=
  wstep_spec hW ok few hn hw (hx.stepE hs (.inr (outside_nil _)) (.inr (outside_nil _)))
    (OutE.new (L := W ++ D) hs hx.hb (.inr (outside_nil _)) hX) (OutE.new (L := W ++ D) hs hx.hc (.inr (outside_nil _)) hX)
section
variable {P : Program} {n : Nat} {f : Slots} {ds : List Deferred} {w : World}
/-- A sequence with what holds between. -/
theorem CW.seqM {Q : Post} {x y : Code} (M : Slots → World → Prop) (h : CW P x (thenC (fun f' ds' w' => ds' = ds ∧ M f' w') Q) n f ds w) (hr : ∀ f' w', M f' w' → CW P y Q n f' ds w') : CW P (.seq x y) Q n f ds w :=
  CW.seq (h.mono fun e f' ds' w' hq => by
    cases e with
    | normal =>
      obtain ⟨rfl, hM⟩ := hq
      exact hr _ _ hM
    | exit id => exact hq
    | goto id => exact hq
    | ret => exact hq
    | panic ch => exact hq
    | outgrown => exact hq)
end
/-- made, at any two numbers. -/
theorem made_any {k c : Int} (w0 : World) : Calls Try.prog 31 #[.int .i64 k, .int .i64 c] w0 fun e w' => ∃ p W, e = .returned (.tuple #[.pointer p, .bool true]) ∧ Step [] W w0 w' := by
  by_cases hbad : (k < 1 ∨ 32 < k) ∨ ¬ (0 ≤ c ∧ c ≤ 67108864)
  · refine (made_bad hbad w0).mono ?_
    rintro e w' ⟨he, hq⟩
    exact ⟨none, [], he, hq⟩
  · have hobt : ∃ m : Nat, k = m := ⟨k.toNat, by omega⟩
    obtain ⟨k, rfl⟩ := hobt
    have hobt : ∃ m : Nat, c = m := ⟨c.toNat, by omega⟩
    obtain ⟨c, rfl⟩ := hobt
    refine (made_new (by omega) (by omega) (by omega) w0).mono ?_
    rintro e w' ⟨bw, W, he, _, hs⟩
    exact ⟨_, W, he, hs⟩
theorem perm_twin {α : Type} {b : α} {X Lt Rt Dt D : List α} : (b :: (X ++ ((Rt ++ Dt) ++ (Lt ++ D)))).Perm ((X ++ [b]) ++ (Lt ++ (Rt ++ (Dt ++ D)))) := by
  have h1 : ((Rt ++ Dt) ++ (Lt ++ D)).Perm (Lt ++ ((Rt ++ Dt) ++ D)) := List.perm_append_comm_assoc _ _ _
  have h2 := (h1.append_left X).cons b
  have h3 : (b :: (X ++ (Lt ++ ((Rt ++ Dt) ++ D)))).Perm (X ++ b :: (Lt ++ ((Rt ++ Dt) ++ D))) := List.perm_middle.symm
  simpa [List.append_assoc] using h2.trans h3
set_option maxHeartbeats 8000000 in
theorem casapart_spec {wd ot cp : Int} {vf vl vr vt : Value} {lf ll lr : List Stp} {lt : List Int} {tw : Bool} (w0 : World) (hf : Stps w0 vf lf) (hl : Stps w0 vl ll) (hr : Stps w0 vr lr) (ht : Nums w0 vt lt) :
    Calls Try.prog 9 #[.int .i64 wd, .int .i64 ot, .int .i64 cp, vf, vl, vr, vt, .bool tw] w0 (Ret0 (.bool true) w0) := by
  have hs : Step [] [] w0 w0 := Step.refl w0
  have hobt := hf.sl.form
  obtain ⟨af, cf, rfl⟩ := hobt
  have hobt := hl.sl.form
  obtain ⟨al, cl, rfl⟩ := hobt
  have hobt := hr.sl.form
  obtain ⟨ar, cr, rfl⟩ := hobt
  have hobt := ht.sl.form
  obtain ⟨at', ct, rfl⟩ := hobt
  have hfl := hf.len
  have hll := hl.len
  have hrl := hr.len
  have htl := ht.len
  have htw : tw = true ∨ tw = false := by cases tw <;> simp
  by_cases hbad : (wd < 1 ∨ 32 < wd) ∨ ¬ (0 ≤ cp ∧ cp ≤ 67108864)
  · refine calls (n := 217) Try.func9 rfl rfl rfl ?_
    repeat (first | refine CW.seq ?_ | refine CW.block ?_ | refine CW.skip ?_ | refine CW.label ?_ | refine CW.exit ?_ | refine CW.condT rfl ?_ | refine CW.condF rfl ?_)
    refine CW.reg ?_
    refine WL.val rfl (run_assign) ?_
    refine WL.nil ?_
    repeat (first | refine CW.seq ?_ | refine CW.block ?_ | refine CW.skip ?_ | refine CW.label ?_ | refine CW.exit ?_ | refine CW.condT rfl ?_ | refine CW.condF rfl ?_)
    refine CW.reg ?_
    refine WL.val rfl (run_move) ?_
    refine WL.val rfl (run_move) ?_
    refine WL.enter rfl (run_call en31 rfl rfl) (made_bad hbad _) ?_
    rintro e w ⟨rfl, hq⟩
    refine ⟨_, rfl, ?_⟩
    replace hs := hs.callE hq
    refine WL.val rfl (run_move) ?_
    refine WL.val rfl (run_extract rfl rfl) ?_
    refine WL.val rfl (run_extract rfl rfl) ?_
    refine WL.val rfl (run_assign) ?_
    refine WL.val rfl (run_assign) ?_
    refine WL.nil ?_
    repeat (first | refine CW.seq ?_ | refine CW.block ?_ | refine CW.skip ?_ | refine CW.label ?_ | refine CW.exit ?_ | refine CW.condT rfl ?_ | refine CW.condF rfl ?_)
    refine CW.reg ?_
    refine WL.val rfl (run_move) ?_
    refine WL.val rfl (run_move) ?_
    refine WL.enter rfl (run_call en31 rfl rfl) (made_any _) ?_
    rintro e w ⟨p2, W2, rfl, hq⟩
    refine ⟨_, rfl, ?_⟩
    replace hs := hs.callAll0 hq
    refine WL.val rfl (run_move) ?_
    refine WL.val rfl (run_extract rfl rfl) ?_
    refine WL.val rfl (run_extract rfl rfl) ?_
    refine WL.val rfl (run_assign) ?_
    refine WL.val rfl (run_assign) ?_
    refine WL.nil ?_
    repeat (first | refine CW.seq ?_ | refine CW.block ?_ | refine CW.skip ?_ | refine CW.label ?_ | refine CW.exit ?_ | refine CW.condT rfl ?_ | refine CW.condF rfl ?_)
    refine CW.reg ?_
    refine WL.val rfl (run_move) ?_
    first | refine WL.val rfl (run_notB rfl) ?_ | refine WL.val rfl (run_not rfl) ?_
    refine WL.val rfl (run_move) ?_
    first | (refine WL.yes rfl rfl rfl ?_; refine WL.val rfl (run_move) ?_) | refine WL.no rfl rfl rfl (.inl rfl) ?_ | refine WL.no rfl rfl rfl (.inr rfl) ?_
    first | (refine WL.yes rfl rfl rfl ?_; (first | refine WL.val rfl (run_notB rfl) ?_ | refine WL.val rfl (run_not rfl) ?_)) | refine WL.no rfl rfl rfl (.inl rfl) ?_ | refine WL.no rfl rfl rfl (.inr rfl) ?_
    first | refine WL.val rfl (run_pickT rfl) ?_ | refine WL.val rfl (run_pickF rfl) ?_
    refine WL.val rfl (run_move) ?_
    first | (refine WL.yes rfl rfl rfl ?_; refine WL.val rfl (run_move) ?_) | refine WL.no rfl rfl rfl (.inl rfl) ?_ | refine WL.no rfl rfl rfl (.inr rfl) ?_
    refine WL.yes rfl rfl rfl ?_
    refine WL.val rfl (run_nilNil Try.underlying57 rfl rfl) ?_
    first | refine WL.val rfl (run_pickT rfl) ?_ | refine WL.val rfl (run_pickF rfl) ?_
    refine WL.val rfl (run_move) ?_
    first | (refine WL.yes rfl rfl rfl ?_; refine WL.val rfl (run_move) ?_) | refine WL.no rfl rfl rfl (.inl rfl) ?_ | refine WL.no rfl rfl rfl (.inr rfl) ?_
    first | refine WL.no rfl rfl rfl (.inl rfl) ?_ | refine WL.no rfl rfl rfl (.inr rfl) ?_
    first | refine WL.val rfl (run_pickT rfl) ?_ | refine WL.val rfl (run_pickF rfl) ?_
    refine WL.nil ?_
    repeat (first | refine CW.seq ?_ | refine CW.block ?_ | refine CW.skip ?_ | refine CW.label ?_ | refine CW.exit ?_)
    first | refine CW.condP rfl (fun h => ?_) (fun h => ?_) | refine CW.cond rfl (fun h => ?_) (fun h => ?_)
    · repeat (first | refine CW.seq ?_ | refine CW.block ?_ | refine CW.skip ?_ | refine CW.label ?_ | refine CW.exit ?_ | refine CW.condT rfl ?_ | refine CW.condF rfl ?_)
      refine CW.reg ?_
      refine WL.val rfl (run_move) ?_
      refine WL.val rfl (run_move) ?_
      first | (refine WL.yes rfl rfl rfl ?_; refine WL.val rfl (run_move) ?_) | refine WL.no rfl rfl rfl (.inl rfl) ?_ | refine WL.no rfl rfl rfl (.inr rfl) ?_
      first | refine WL.val rfl (run_pickT rfl) ?_ | refine WL.val rfl (run_pickF rfl) ?_
      refine WL.val rfl (run_assign) ?_
      refine WL.nil ?_
      repeat (first | refine CW.seq ?_ | refine CW.block ?_ | refine CW.skip ?_ | refine CW.label ?_ | refine CW.exit ?_ | refine CW.condT rfl ?_ | refine CW.condF rfl ?_)
      refine CW.ret ?_
      refine fin_ret1 rfl ?_
      exact ⟨rfl, hs.clear⟩
    · cases h
  have hobt : ∃ k : Nat, wd = k := ⟨wd.toNat, by omega⟩
  obtain ⟨k, rfl⟩ := hobt
  have hobt : ∃ c : Nat, cp = c := ⟨cp.toNat, by omega⟩
  obtain ⟨c, rfl⟩ := hobt
  have hk1 : 1 ≤ k := by omega
  have hk2 : k ≤ 32 := by omega
  have hc2 : c ≤ 67108864 := by omega
  by_cases hbad2 : (ot < 1 ∨ 32 < ot) ∨ ¬ (0 ≤ (c : Int) ∧ (c : Int) ≤ 67108864)
  · refine calls (n := 217) Try.func9 rfl rfl rfl ?_
    repeat (first | refine CW.seq ?_ | refine CW.block ?_ | refine CW.skip ?_ | refine CW.label ?_ | refine CW.exit ?_ | refine CW.condT rfl ?_ | refine CW.condF rfl ?_)
    refine CW.reg ?_
    refine WL.val rfl (run_assign) ?_
    refine WL.nil ?_
    repeat (first | refine CW.seq ?_ | refine CW.block ?_ | refine CW.skip ?_ | refine CW.label ?_ | refine CW.exit ?_ | refine CW.condT rfl ?_ | refine CW.condF rfl ?_)
    refine CW.reg ?_
    refine WL.val rfl (run_move) ?_
    refine WL.val rfl (run_move) ?_
    refine WL.enter rfl (run_call en31 rfl rfl) (made_new hk1 hk2 hc2 _) ?_
    rintro e w ⟨bwa, W1, rfl, hWa, hq⟩
    refine ⟨_, rfl, ?_⟩
    replace hs := hs.callAll0 hq
    refine WL.val rfl (run_move) ?_
    refine WL.val rfl (run_extract rfl rfl) ?_
    refine WL.val rfl (run_extract rfl rfl) ?_
    refine WL.val rfl (run_assign) ?_
    refine WL.val rfl (run_assign) ?_
    refine WL.nil ?_
    repeat (first | refine CW.seq ?_ | refine CW.block ?_ | refine CW.skip ?_ | refine CW.label ?_ | refine CW.exit ?_ | refine CW.condT rfl ?_ | refine CW.condF rfl ?_)
    refine CW.reg ?_
    refine WL.val rfl (run_move) ?_
    refine WL.val rfl (run_move) ?_
    refine WL.enter rfl (run_call en31 rfl rfl) (made_bad hbad2 _) ?_
    rintro e w ⟨rfl, hq⟩
    refine ⟨_, rfl, ?_⟩
    replace hs := hs.callE hq
    refine WL.val rfl (run_move) ?_
    refine WL.val rfl (run_extract rfl rfl) ?_
    refine WL.val rfl (run_extract rfl rfl) ?_
    refine WL.val rfl (run_assign) ?_
    refine WL.val rfl (run_assign) ?_
    refine WL.nil ?_
    repeat (first | refine CW.seq ?_ | refine CW.block ?_ | refine CW.skip ?_ | refine CW.label ?_ | refine CW.exit ?_ | refine CW.condT rfl ?_ | refine CW.condF rfl ?_)
    refine CW.reg ?_
    refine WL.val rfl (run_move) ?_
    first | refine WL.val rfl (run_notB rfl) ?_ | refine WL.val rfl (run_not rfl) ?_
    refine WL.val rfl (run_move) ?_
    first | (refine WL.yes rfl rfl rfl ?_; refine WL.val rfl (run_move) ?_) | refine WL.no rfl rfl rfl (.inl rfl) ?_ | refine WL.no rfl rfl rfl (.inr rfl) ?_
    first | (refine WL.yes rfl rfl rfl ?_; (first | refine WL.val rfl (run_notB rfl) ?_ | refine WL.val rfl (run_not rfl) ?_)) | refine WL.no rfl rfl rfl (.inl rfl) ?_ | refine WL.no rfl rfl rfl (.inr rfl) ?_
    first | refine WL.val rfl (run_pickT rfl) ?_ | refine WL.val rfl (run_pickF rfl) ?_
    refine WL.val rfl (run_move) ?_
    first | (refine WL.yes rfl rfl rfl ?_; refine WL.val rfl (run_move) ?_) | refine WL.no rfl rfl rfl (.inl rfl) ?_ | refine WL.no rfl rfl rfl (.inr rfl) ?_
    refine WL.yes rfl rfl rfl ?_
    refine WL.val rfl (run_ptrNil Try.underlying57 rfl rfl) ?_
    first | refine WL.val rfl (run_pickT rfl) ?_ | refine WL.val rfl (run_pickF rfl) ?_
    refine WL.val rfl (run_move) ?_
    first | (refine WL.yes rfl rfl rfl ?_; refine WL.val rfl (run_move) ?_) | refine WL.no rfl rfl rfl (.inl rfl) ?_ | refine WL.no rfl rfl rfl (.inr rfl) ?_
    refine WL.yes rfl rfl rfl ?_
    refine WL.val rfl (run_nilNil Try.underlying57 rfl rfl) ?_
    first | refine WL.val rfl (run_pickT rfl) ?_ | refine WL.val rfl (run_pickF rfl) ?_
    refine WL.nil ?_
    repeat (first | refine CW.seq ?_ | refine CW.block ?_ | refine CW.skip ?_ | refine CW.label ?_ | refine CW.exit ?_)
    first | refine CW.condP rfl (fun h => ?_) (fun h => ?_) | refine CW.cond rfl (fun h => ?_) (fun h => ?_)
    · repeat (first | refine CW.seq ?_ | refine CW.block ?_ | refine CW.skip ?_ | refine CW.label ?_ | refine CW.exit ?_ | refine CW.condT rfl ?_ | refine CW.condF rfl ?_)
      refine CW.reg ?_
      refine WL.val rfl (run_move) ?_
      refine WL.val rfl (run_move) ?_
      first | (refine WL.yes rfl rfl rfl ?_; refine WL.val rfl (run_move) ?_) | refine WL.no rfl rfl rfl (.inl rfl) ?_ | refine WL.no rfl rfl rfl (.inr rfl) ?_
      first | refine WL.val rfl (run_pickT rfl) ?_ | refine WL.val rfl (run_pickF rfl) ?_
      refine WL.val rfl (run_assign) ?_
      refine WL.nil ?_
      repeat (first | refine CW.seq ?_ | refine CW.block ?_ | refine CW.skip ?_ | refine CW.label ?_ | refine CW.exit ?_ | refine CW.condT rfl ?_ | refine CW.condF rfl ?_)
      refine CW.ret ?_
      refine fin_ret1 rfl ?_
      exact ⟨rfl, hs.clear⟩
    · cases h
  have hobt : ∃ k : Nat, ot = k := ⟨ot.toNat, by omega⟩
  obtain ⟨k2, rfl⟩ := hobt
  have hk3 : 1 ≤ k2 := by omega
  have hk4 : k2 ≤ 32 := by omega
  refine calls (n := 217) Try.func9 rfl rfl rfl ?_
  repeat (first | refine CW.seq ?_ | refine CW.block ?_ | refine CW.skip ?_ | refine CW.label ?_ | refine CW.exit ?_ | refine CW.condT rfl ?_ | refine CW.condF rfl ?_)
  refine CW.reg ?_
  refine WL.val rfl (run_assign) ?_
  refine WL.nil ?_
  repeat (first | refine CW.seq ?_ | refine CW.block ?_ | refine CW.skip ?_ | refine CW.label ?_ | refine CW.exit ?_ | refine CW.condT rfl ?_ | refine CW.condF rfl ?_)
  refine CW.reg ?_
  refine WL.val rfl (run_move) ?_
  refine WL.val rfl (run_move) ?_
  refine WL.enter rfl (run_call en31 rfl rfl) (made_new hk1 hk2 hc2 _) ?_
  rintro e w ⟨bwa, W1, rfl, hWa, hq⟩
  refine ⟨_, rfl, ?_⟩
  replace hs := hs.callAll0 hq
  refine WL.val rfl (run_move) ?_
  refine WL.val rfl (run_extract rfl rfl) ?_
  refine WL.val rfl (run_extract rfl rfl) ?_
  refine WL.val rfl (run_assign) ?_
  refine WL.val rfl (run_assign) ?_
  refine WL.nil ?_
  repeat (first | refine CW.seq ?_ | refine CW.block ?_ | refine CW.skip ?_ | refine CW.label ?_ | refine CW.exit ?_ | refine CW.condT rfl ?_ | refine CW.condF rfl ?_)
  refine CW.reg ?_
  refine WL.val rfl (run_move) ?_
  refine WL.val rfl (run_move) ?_
  refine WL.enter rfl (run_call en31 rfl rfl) (made_new hk3 hk4 hc2 _) ?_
  rintro e w ⟨b85, W2, rfl, hWb, hq⟩
  refine ⟨_, rfl, ?_⟩
  replace hs := Step.call0 hs hq
  refine WL.val rfl (run_move) ?_
  refine WL.val rfl (run_extract rfl rfl) ?_
  refine WL.val rfl (run_extract rfl rfl) ?_
  refine WL.val rfl (run_assign) ?_
  refine WL.val rfl (run_assign) ?_
  refine WL.nil ?_
  repeat (first | refine CW.seq ?_ | refine CW.block ?_ | refine CW.skip ?_ | refine CW.label ?_ | refine CW.exit ?_ | refine CW.condT rfl ?_ | refine CW.condF rfl ?_)
  refine CW.reg ?_
  refine WL.val rfl (run_move) ?_
  first | refine WL.val rfl (run_notB rfl) ?_ | refine WL.val rfl (run_not rfl) ?_
  refine WL.val rfl (run_move) ?_
  first | (refine WL.yes rfl rfl rfl ?_; refine WL.val rfl (run_move) ?_) | refine WL.no rfl rfl rfl (.inl rfl) ?_ | refine WL.no rfl rfl rfl (.inr rfl) ?_
  first | (refine WL.yes rfl rfl rfl ?_; (first | refine WL.val rfl (run_notB rfl) ?_ | refine WL.val rfl (run_not rfl) ?_)) | refine WL.no rfl rfl rfl (.inl rfl) ?_ | refine WL.no rfl rfl rfl (.inr rfl) ?_
  first | refine WL.val rfl (run_pickT rfl) ?_ | refine WL.val rfl (run_pickF rfl) ?_
  refine WL.val rfl (run_move) ?_
  first | (refine WL.yes rfl rfl rfl ?_; refine WL.val rfl (run_move) ?_) | refine WL.no rfl rfl rfl (.inl rfl) ?_ | refine WL.no rfl rfl rfl (.inr rfl) ?_
  refine WL.yes rfl rfl rfl ?_
  refine WL.val rfl (run_ptrNil Try.underlying57 rfl rfl) ?_
  first | refine WL.val rfl (run_pickT rfl) ?_ | refine WL.val rfl (run_pickF rfl) ?_
  refine WL.val rfl (run_move) ?_
  first | (refine WL.yes rfl rfl rfl ?_; refine WL.val rfl (run_move) ?_) | refine WL.no rfl rfl rfl (.inl rfl) ?_ | refine WL.no rfl rfl rfl (.inr rfl) ?_
  refine WL.yes rfl rfl rfl ?_
  refine WL.val rfl (run_ptrNil Try.underlying57 rfl rfl) ?_
  first | refine WL.val rfl (run_pickT rfl) ?_ | refine WL.val rfl (run_pickF rfl) ?_
  refine WL.nil ?_
  repeat (first | refine CW.seq ?_ | refine CW.block ?_ | refine CW.skip ?_ | refine CW.label ?_ | refine CW.exit ?_)
  first | refine CW.condP rfl (fun h => ?_) (fun h => ?_) | refine CW.cond rfl (fun h => ?_) (fun h => ?_)
  · cases h
  refine CW.skip ?_
  refine CW.seqM (fun f w => ∃ s W D, WRep bwa s D W ∧ s.Ok ∧ s.Few 300 ∧ Step [] (W2 ++ (W ++ D)) w0 w ∧ Holds f [(4, .slice al ll.length cl), (5, .slice ar lr.length cr), (6, .slice at' lt.length ct), (7, .bool tw), (17, .pointer (some ⟨bwa, 0, none⟩)), (19, .pointer (some ⟨b85, 0, none⟩))]) ?_ ?_
  · repeat (first | refine CW.seq ?_ | refine CW.block ?_ | refine CW.skip ?_ | refine CW.label ?_ | refine CW.exit ?_ | refine CW.condT rfl ?_ | refine CW.condF rfl ?_)
    refine CW.reg ?_
    refine WL.val rfl (run_assign) ?_
    refine WL.nil ?_
    repeat (first | refine CW.seq ?_ | refine CW.block ?_ | refine CW.skip ?_ | refine CW.label ?_ | refine CW.exit ?_ | refine CW.condT rfl ?_ | refine CW.condF rfl ?_)
    refine CW.loop (fun m f w' => ∃ i s W D, i ≤ lf.length ∧ i ≤ 300 ∧ m = 300 - i ∧ WRep bwa s D W ∧ s.Ok ∧ s.Few i ∧ Step [] (W2 ++ (W ++ D)) w0 w' ∧ Holds f [(3, .slice af lf.length cf), (4, .slice al ll.length cl), (5, .slice ar lr.length cr), (6, .slice at' lt.length ct), (7, .bool tw), (17, .pointer (some ⟨bwa, 0, none⟩)), (19, .pointer (some ⟨b85, 0, none⟩)), (21, .int .i64 (i : Nat))]) (m := 300) ?_ ?_
    · exact ⟨0, _, W1, [], Nat.zero_le _, Nat.zero_le _, rfl, hWa, newS_ok hk1 hk2 hc2, newS_few, by rw [List.append_nil]; exact hs, rfl, rfl, rfl, rfl, rfl, rfl, rfl, rfl, trivial⟩
    · rintro m f w ⟨i, s, W, D, hi1, hi3, rfl, hW, ok, few, hs, hfh⟩
      have hobt := hfh.chain
      obtain ⟨g, rfl⟩ := hobt
      by_cases hlt : i < lf.length
      · by_cases h300 : i < 300
        · have hobt : ∃ x, lf[i]? = some x := ⟨_, List.getElem?_eq_getElem hlt⟩
          obtain ⟨x, hx⟩ := hobt
          have hxo := hf.ok x (List.mem_of_getElem? hx)
          have hobt := hf.at hx
          obtain ⟨b, off, c0, hc0, hat⟩ := hobt
          cases hc0
          have hx3 := Stp.cells_len hxo
          repeat (first | refine CW.seq ?_ | refine CW.block ?_ | refine CW.skip ?_ | refine CW.label ?_ | refine CW.exit ?_ | refine CW.condT rfl ?_ | refine CW.condF rfl ?_)
          refine CW.reg ?_
          refine WL.val rfl (run_move) ?_
          refine WL.val rfl (run_move) ?_
          refine WL.val rfl (run_lenSl Try.underlying46 rfl) ?_
          refine WL.val rfl (run_bT (run_lss rfl rfl) (by omega)) ?_
          refine WL.val rfl (run_move) ?_
          first | (refine WL.yes rfl rfl rfl ?_; refine WL.val rfl (run_move) ?_) | refine WL.no rfl rfl rfl (.inl rfl) ?_ | refine WL.no rfl rfl rfl (.inr rfl) ?_
          refine WL.yes rfl rfl rfl ?_
          refine WL.val rfl (run_bT (run_lss rfl rfl) (by omega)) ?_
          first | refine WL.val rfl (run_pickT rfl) ?_ | refine WL.val rfl (run_pickF rfl) ?_
          refine WL.nil ?_
          repeat (first | refine CW.seq ?_ | refine CW.block ?_ | refine CW.skip ?_ | refine CW.label ?_ | refine CW.exit ?_)
          first | refine CW.condP rfl (fun h => ?_) (fun h => ?_) | refine CW.cond rfl (fun h => ?_) (fun h => ?_)
          · repeat (first | refine CW.seq ?_ | refine CW.block ?_ | refine CW.skip ?_ | refine CW.label ?_ | refine CW.exit ?_ | refine CW.condT rfl ?_ | refine CW.condF rfl ?_)
            refine CW.reg ?_
            refine WL.val rfl (run_move) ?_
            refine WL.val rfl (run_move) ?_
            refine WL.val rfl (run_move) ?_
            first | refine WL.val rfl (run_ixSlN Try.underlying46 ty48 rfl rfl (by omega)) ?_ | refine WL.val rfl (run_ixSl Try.underlying46 ty48 rfl rfl (by omega)) ?_
            refine WL.val rfl (run_loadN ty48 rfl hx3 (hat.step hs (by simp))) ?_
            refine WL.enter rfl (run_call en32 rfl rfl) (wstep_new (A := W2) hW ok few (by omega) hs hxo) ?_
            rintro e w ⟨s2, W3, D2, rfl, hW3, ok2, few2, hk5, hq⟩
            refine ⟨_, rfl, ?_⟩
            replace hs := Own.put (A := W2) hs hq
            first | refine WL.val rfl (run_notB rfl) ?_ | refine WL.val rfl (run_not rfl) ?_
            refine WL.nil ?_
            repeat (first | refine CW.seq ?_ | refine CW.block ?_ | refine CW.skip ?_ | refine CW.label ?_ | refine CW.exit ?_)
            first | refine CW.condP rfl (fun h => ?_) (fun h => ?_) | refine CW.cond rfl (fun h => ?_) (fun h => ?_)
            · cases h
            repeat (first | refine CW.seq ?_ | refine CW.block ?_ | refine CW.skip ?_ | refine CW.label ?_ | refine CW.exit ?_ | refine CW.condT rfl ?_ | refine CW.condF rfl ?_)
            refine CW.reg ?_
            refine WL.val rfl (run_move) ?_
            refine WL.val rfl (run_add (c := ((i + 1 : Nat) : Int)) rfl rfl (by omega) (by omega)) ?_
            refine WL.val rfl (run_assign) ?_
            refine WL.nil ?_
            repeat (first | refine CW.seq ?_ | refine CW.block ?_ | refine CW.skip ?_ | refine CW.label ?_ | refine CW.exit ?_)
            refine (show _ ∧ _ from ⟨rfl, _, ?_, i + 1, s2, W3, D2 ++ D, by omega, by omega, rfl, hW3, ok2, few2, hs, rfl, rfl, rfl, rfl, rfl, rfl, rfl, rfl, trivial⟩)
            omega
          · cases h
        · obtain rfl : i = 300 := by omega
          repeat (first | refine CW.seq ?_ | refine CW.block ?_ | refine CW.skip ?_ | refine CW.label ?_ | refine CW.exit ?_ | refine CW.condT rfl ?_ | refine CW.condF rfl ?_)
          refine CW.reg ?_
          refine WL.val rfl (run_move) ?_
          refine WL.val rfl (run_move) ?_
          refine WL.val rfl (run_lenSl Try.underlying46 rfl) ?_
          refine WL.val rfl (run_bT (run_lss rfl rfl) (by omega)) ?_
          refine WL.val rfl (run_move) ?_
          first | (refine WL.yes rfl rfl rfl ?_; refine WL.val rfl (run_move) ?_) | refine WL.no rfl rfl rfl (.inl rfl) ?_ | refine WL.no rfl rfl rfl (.inr rfl) ?_
          refine WL.yes rfl rfl rfl ?_
          refine WL.val rfl (run_bF (run_lss rfl rfl) (by omega)) ?_
          first | refine WL.val rfl (run_pickT rfl) ?_ | refine WL.val rfl (run_pickF rfl) ?_
          refine WL.nil ?_
          repeat (first | refine CW.seq ?_ | refine CW.block ?_ | refine CW.skip ?_ | refine CW.label ?_ | refine CW.exit ?_)
          first | refine CW.condP rfl (fun h => ?_) (fun h => ?_) | refine CW.cond rfl (fun h => ?_) (fun h => ?_)
          · cases h
          repeat (first | refine CW.seq ?_ | refine CW.block ?_ | refine CW.skip ?_ | refine CW.label ?_ | refine CW.exit ?_ | refine CW.condT rfl ?_ | refine CW.condF rfl ?_)
          exact ⟨rfl, s, W, D, hW, ok, few.mono (by omega), hs, rfl, rfl, rfl, rfl, rfl, rfl, trivial⟩
      · repeat (first | refine CW.seq ?_ | refine CW.block ?_ | refine CW.skip ?_ | refine CW.label ?_ | refine CW.exit ?_ | refine CW.condT rfl ?_ | refine CW.condF rfl ?_)
        refine CW.reg ?_
        refine WL.val rfl (run_move) ?_
        refine WL.val rfl (run_move) ?_
        refine WL.val rfl (run_lenSl Try.underlying46 rfl) ?_
        refine WL.val rfl (run_bF (run_lss rfl rfl) (by omega)) ?_
        refine WL.val rfl (run_move) ?_
        first | (refine WL.yes rfl rfl rfl ?_; refine WL.val rfl (run_move) ?_) | refine WL.no rfl rfl rfl (.inl rfl) ?_ | refine WL.no rfl rfl rfl (.inr rfl) ?_
        first | (refine WL.yes rfl rfl rfl ?_; refine WL.val rfl (run_lss rfl rfl) ?_) | refine WL.no rfl rfl rfl (.inl rfl) ?_ | refine WL.no rfl rfl rfl (.inr rfl) ?_
        first | refine WL.val rfl (run_pickT rfl) ?_ | refine WL.val rfl (run_pickF rfl) ?_
        refine WL.nil ?_
        repeat (first | refine CW.seq ?_ | refine CW.block ?_ | refine CW.skip ?_ | refine CW.label ?_ | refine CW.exit ?_)
        first | refine CW.condP rfl (fun h => ?_) (fun h => ?_) | refine CW.cond rfl (fun h => ?_) (fun h => ?_)
        · cases h
        repeat (first | refine CW.seq ?_ | refine CW.block ?_ | refine CW.skip ?_ | refine CW.label ?_ | refine CW.exit ?_ | refine CW.condT rfl ?_ | refine CW.condF rfl ?_)
        exact ⟨rfl, s, W, D, hW, ok, few.mono (by omega), hs, rfl, rfl, rfl, rfl, rfl, rfl, trivial⟩
  clear hs
  rintro f w ⟨s, W, D, hW, ok, few, hs, hfh⟩
  have hobt := hfh.chain
  obtain ⟨g, rfl⟩ := hobt
  refine CW.seqM (fun f w => ∃ b85 sa sb Wa Wb D, Step [] (Wa ++ (Wb ++ D)) w0 w ∧ WRep bwa sa D Wa ∧ WRep b85 sb D Wb ∧ sa.Ok ∧ sb.Ok ∧ sa.Few (300 + 0) ∧ sb.Few (300 + 0) ∧ Holds f [(4, .slice al ll.length cl), (5, .slice ar lr.length cr), (6, .slice at' lt.length ct), (17, .pointer (some ⟨bwa, 0, none⟩)), (19, .pointer (some ⟨b85, 0, none⟩))]) ?_ ?_
  · rcases htw with rfl | rfl
    · repeat (first | refine CW.seq ?_ | refine CW.block ?_ | refine CW.skip ?_ | refine CW.label ?_ | refine CW.exit ?_ | refine CW.condT rfl ?_ | refine CW.condF rfl ?_)
      refine CW.reg ?_
      refine WL.val rfl (run_move) ?_
      refine WL.nil ?_
      repeat (first | refine CW.seq ?_ | refine CW.block ?_ | refine CW.skip ?_ | refine CW.label ?_ | refine CW.exit ?_)
      first | refine CW.condP rfl (fun h => ?_) (fun h => ?_) | refine CW.cond rfl (fun h => ?_) (fun h => ?_)
      · obtain ⟨bp, br, vI, Lm, L, R, rfl, hI, hR, hT⟩ := hW
        replace hs : Step [] ((bwa, blk 64 (woC bp br vI)) :: (Lm ++ (L ++ (R ++ D)))) w0 w := (Step.dropL hs).perm (by simp [List.append_assoc])
        have htwin := fun {w1} hl => twin_abs (w0 := w1) hR ok hl
        have hrtwin := fun {w1 D2} (hT : RRep br s D2 R) hl => rtwin_abs (w0 := w1) hT ok hl
        repeat (first | refine CW.seq ?_ | refine CW.block ?_ | refine CW.skip ?_ | refine CW.label ?_ | refine CW.exit ?_ | refine CW.condT rfl ?_ | refine CW.condF rfl ?_)
        refine CW.any (A := fun w => w.heap[bwa]? = some (blk 64 (woC bp br vI))) (C := fun w => w.heap[bwa]? = some (blk 64 (woC bp br vI))) 4 13 mixedP rfl ?_
        replace hs := hs.drew
        refine AL.valA 0 rfl (by kernel_rfl) rfl (fun w hs => run_move) ?_
        refine AL.valA 1 rfl (by kernel_rfl) rfl (fun w hs => run_nilCheck rfl) ?_
        refine AL.valA 2 rfl (by kernel_rfl) rfl (fun w hs => run_field (o' := 0) Try.underlying64 rfl ty24 rfl rfl rfl) ?_
        refine AL.val 3 rfl (by kernel_rfl) rfl (fun w hs => run_load1 ty24 rfl ((by rw [cell_blk hs]; rfl))) ?_
        refine AL.valA 5 rfl (by kernel_rfl) rfl (fun w hs => run_move) ?_
        refine AL.valA 6 rfl (by kernel_rfl) rfl (fun w hs => run_nilCheck rfl) ?_
        refine AL.valA 7 rfl (by kernel_rfl) rfl (fun w hs => run_field (o' := 1) Try.underlying64 rfl ty62 rfl rfl rfl) ?_
        refine AL.valA 8 rfl (by kernel_rfl) rfl (fun w hs => run_load1 ty62 rfl ((by rw [cell_blk hs]; rfl))) ?_
        refine AL.one 4 (by kernel_rfl) rfl (by first | exact hs.hd | exact hs.tail.hd) (by first | exact hs.hd | exact hs.tail.hd) ?_
        refine WL.enter rfl (run_call en37 rfl rfl) (htwin (Two.live (A := _ :: Lm) hs)) ?_
        rintro e w ⟨bt, Lt, rfl, hR2, hq⟩
        refine ⟨_, rfl, ?_⟩
        replace hs := Two.keep (A := _ :: Lm) hs hq
        refine WL.nil ?_
        refine ⟨rfl, ?_⟩
        refine AL.relax (by kernel_rfl) ?_
        refine AL.one 9 (by kernel_rfl) rfl (by first | exact hs.hd | exact hs.tail.hd) (trivial) ?_
        refine WL.enter rfl (run_call en35 rfl rfl) (hrtwin (hT.mono (D' := Lt ++ D) fun p hp => List.mem_append_right _ hp) (Two.rlive (A := _ :: Lm) hs)) ?_
        rintro e w ⟨br2, Rt, Dt, rfl, hT2, hq⟩
        refine ⟨_, rfl, ?_⟩
        replace hs := Two.keep (A := _ :: Lm) hs hq
        refine WL.nil ?_
        refine ⟨rfl, ?_⟩
        refine AL.valA 10 rfl (by kernel_rfl) rfl (fun w hs => run_build rfl ((bld_world _ _ _))) ?_
        refine AL.one 11 (by kernel_rfl) rfl (by first | exact hs.hd | exact hs.tail.hd) (trivial) ?_
        refine WL.box (cs := woC bt br2 (.slice none 0 0)) rfl rfl rfl hs (fun b85 w hs => ?_)
        refine WL.nil ?_
        refine ⟨rfl, ?_⟩
        refine AL.valA 12 rfl (by kernel_rfl) rfl (fun w hs => run_assign) ?_
        refine AL.end (by kernel_rfl) (by first | exact hs.hd | exact hs.tail.hd) (trivial) ?_
        replace hs : Step [] ((((bwa, blk 64 (woC bp br vI)) :: (Lm ++ (L ++ R))) ++ [(b85, blk 64 (woC bt br2 (.slice none 0 0)))]) ++ (Lt ++ (Rt ++ (Dt ++ D)))) w0 w := hs.perm (by
          have h := perm_twin (b := (b85, blk 64 (woC bt br2 (.slice none 0 0)))) (X := (bwa, blk 64 (woC bp br vI)) :: (Lm ++ (L ++ R))) (Lt := Lt) (Rt := Rt) (Dt := Dt) (D := D)
          simpa [List.append_assoc] using h)
        replace hR2 := hR2.mono (D' := Dt ++ D) fun p hp => List.mem_append_right _ hp
        replace hT2 := hT2.mono (D' := Dt ++ D) fun p hp => List.mem_append_left _ hp
        have hcb := fun {w} (hs : Step [] ((((bwa, blk 64 (woC bp br vI)) :: (Lm ++ (L ++ R))) ++ [(b85, blk 64 (woC bt br2 (.slice none 0 0)))]) ++ (Lt ++ (Rt ++ (Dt ++ D)))) w0 w) (j : Nat) => cell_blk (hs.has (b85, blk 64 (woC bt br2 (.slice none 0 0))) (by simp)) j
        repeat (first | refine CW.seq ?_ | refine CW.block ?_ | refine CW.skip ?_ | refine CW.label ?_ | refine CW.exit ?_ | refine CW.condT rfl ?_ | refine CW.condF rfl ?_)
        refine CW.quiet mixedP (by kernel_rfl) hs ?_
        refine QL.val rfl (fun w hs => run_move) ?_
        refine QL.val rfl (fun w hs => run_nilCheck rfl) ?_
        refine QL.val rfl (fun w hs => run_field (o' := 0) Try.underlying64 rfl ty24 rfl rfl rfl) ?_
        refine QL.val rfl (fun w hs => run_load1 ty24 rfl (hcb hs 0)) ?_
        refine QL.val rfl (fun w hs => run_ptrNil Try.underlying24 rfl rfl) ?_
        refine QL.val rfl (fun w hs => run_move) ?_
        first | (refine QL.yes rfl rfl rfl ?_; refine QL.val rfl (fun w hs => run_move) ?_) | refine QL.no rfl rfl rfl (.inl rfl) ?_ | refine QL.no rfl rfl rfl (.inr rfl) ?_
        first | (refine QL.yes rfl rfl rfl ?_; refine QL.val rfl (fun w hs => run_nilCheck rfl) ?_) | refine QL.no rfl rfl rfl (.inl rfl) ?_ | refine QL.no rfl rfl rfl (.inr rfl) ?_
        first | (refine QL.yes rfl rfl rfl ?_; refine QL.val rfl (fun w hs => run_field (o' := 0) Try.underlying64 rfl ty24 rfl rfl rfl) ?_) | refine QL.no rfl rfl rfl (.inl rfl) ?_ | refine QL.no rfl rfl rfl (.inr rfl) ?_
        refine QL.yes rfl rfl rfl ?_
        refine QL.val rfl (fun w hs => run_load1 ty24 rfl (hcb hs 0)) ?_
        first | (refine QL.yes rfl rfl rfl ?_; refine QL.val rfl (fun w hs => run_move) ?_) | refine QL.no rfl rfl rfl (.inl rfl) ?_ | refine QL.no rfl rfl rfl (.inr rfl) ?_
        first | (refine QL.yes rfl rfl rfl ?_; refine QL.val rfl (fun w hs => run_nilCheck rfl) ?_) | refine QL.no rfl rfl rfl (.inl rfl) ?_ | refine QL.no rfl rfl rfl (.inr rfl) ?_
        first | (refine QL.yes rfl rfl rfl ?_; refine QL.val rfl (fun w hs => run_field (o' := 1) Try.underlying64 rfl ty62 rfl rfl rfl) ?_) | refine QL.no rfl rfl rfl (.inl rfl) ?_ | refine QL.no rfl rfl rfl (.inr rfl) ?_
        refine QL.yes rfl rfl rfl ?_
        refine QL.val rfl (fun w hs => run_load1 ty62 rfl (hcb hs 1)) ?_
        refine QL.yes rfl rfl rfl ?_
        refine QL.enter rfl (fun w => run_call en33 rfl rfl) (fun w hs => alike_spec hR2 hT2 ok (Two.live hs) (Two.rlive hs)) ?_
        first | (refine QL.yes rfl rfl rfl ?_; (first | refine QL.val rfl (fun w hs => run_notB rfl) ?_ | refine QL.val rfl (fun w hs => run_not rfl) ?_)) | refine QL.no rfl rfl rfl (.inl rfl) ?_ | refine QL.no rfl rfl rfl (.inr rfl) ?_
        first | refine QL.val rfl (fun w hs => run_pickT rfl) ?_ | refine QL.val rfl (fun w hs => run_pickF rfl) ?_
        refine QL.nil (fun w hs => ?_)
        repeat (first | refine CW.seq ?_ | refine CW.block ?_ | refine CW.skip ?_ | refine CW.label ?_ | refine CW.exit ?_)
        first | refine CW.condP rfl (fun h => ?_) (fun h => ?_) | refine CW.cond rfl (fun h => ?_) (fun h => ?_)
        · cases h
        have hobt : ∃ Wa, (bwa, blk 64 (woC bp br vI)) :: (Lm ++ (L ++ R)) = Wa := ⟨_, rfl⟩
        obtain ⟨Wa, hWae⟩ := hobt
        have hobt : ∃ Wb, (b85, blk 64 (woC bt br2 (.slice none 0 0))) :: ([] ++ (Lt ++ Rt)) = Wb := ⟨_, rfl⟩
        obtain ⟨Wb, hWbe⟩ := hobt
        have hWa : WRep bwa s (Dt ++ D) Wa := ⟨bp, br, vI, Lm, L, R, hWae.symm, hI, hR.mono fun p hp => List.mem_append_right _ hp, hT.mono fun p hp => List.mem_append_right _ hp⟩
        have hWb : WRep b85 s (Dt ++ D) Wb := ⟨bt, br2, _, [], Lt, Rt, hWbe.symm, ⟨0, [], OwnSl.nil _ _⟩, hR2, hT2⟩
        replace hs : Step [] (Wa ++ (Wb ++ (Dt ++ D))) w0 w := by
          rw [← hWae, ← hWbe]
          simpa [List.append_assoc] using hs
        have hobt : ∃ Dn, Dt ++ D = Dn := ⟨_, rfl⟩
        obtain ⟨Dn, hDn⟩ := hobt
        rw [hDn] at hs hWa hWb
        repeat (first | refine CW.seq ?_ | refine CW.block ?_ | refine CW.skip ?_ | refine CW.label ?_ | refine CW.exit ?_ | refine CW.condT rfl ?_ | refine CW.condF rfl ?_)
        exact ⟨rfl, b85, s, s, Wa, Wb, Dn, hs, hWa, hWb, ok, ok, few.mono (by omega), few.mono (by omega), rfl, rfl, rfl, rfl, rfl, trivial⟩
      · cases h
    · repeat (first | refine CW.seq ?_ | refine CW.block ?_ | refine CW.skip ?_ | refine CW.label ?_ | refine CW.exit ?_ | refine CW.condT rfl ?_ | refine CW.condF rfl ?_)
      refine CW.reg ?_
      refine WL.val rfl (run_move) ?_
      refine WL.nil ?_
      repeat (first | refine CW.seq ?_ | refine CW.block ?_ | refine CW.skip ?_ | refine CW.label ?_ | refine CW.exit ?_)
      first | refine CW.condP rfl (fun h => ?_) (fun h => ?_) | refine CW.cond rfl (fun h => ?_) (fun h => ?_)
      · cases h
      replace hs := Own.swap (A := []) hs
      repeat (first | refine CW.seq ?_ | refine CW.block ?_ | refine CW.skip ?_ | refine CW.label ?_ | refine CW.exit ?_ | refine CW.condT rfl ?_ | refine CW.condF rfl ?_)
      exact ⟨rfl, b85, s, _, W, W2, D, hs, hW, hWb.mono (fun p hp => (by cases hp)), ok, newS_ok hk3 hk4 hc2, few.mono (by omega), newS_few.mono (by omega), rfl, rfl, rfl, rfl, rfl, trivial⟩
  clear hs hfh hWb
  rintro f w ⟨b85, sa, sb, Wa, Wb, D, hs, hWa, hWb, ok1, okb, few1, fewb, hfh⟩
  have hobt := hfh.chain
  obtain ⟨g, rfl⟩ := hobt
  repeat (first | refine CW.seq ?_ | refine CW.block ?_ | refine CW.skip ?_ | refine CW.label ?_ | refine CW.exit ?_ | refine CW.condT rfl ?_ | refine CW.condF rfl ?_)
  refine CW.reg ?_
  refine WL.val rfl (run_assign) ?_
  refine WL.val rfl (run_assign) ?_
  refine WL.nil ?_
  repeat (first | refine CW.seq ?_ | refine CW.block ?_ | refine CW.skip ?_ | refine CW.label ?_ | refine CW.exit ?_ | refine CW.condT rfl ?_ | refine CW.condF rfl ?_)
  refine CW.reg ?_
  refine WL.val rfl (run_assign) ?_
  refine WL.nil ?_
  repeat (first | refine CW.seq ?_ | refine CW.block ?_ | refine CW.skip ?_ | refine CW.label ?_ | refine CW.exit ?_ | refine CW.condT rfl ?_ | refine CW.condF rfl ?_)
  refine CW.loop (fun m f w' => ∃ i j n sa sb Wa Wb D, i ≤ ll.length ∧ j ≤ lr.length ∧ n ≤ 300 ∧ m = 300 - n ∧ WRep bwa sa D Wa ∧ WRep b85 sb D Wb ∧ sa.Ok ∧ sb.Ok ∧ sa.Few (300 + n) ∧ sb.Few (300 + n) ∧ Step [] (Wa ++ (Wb ++ D)) w0 w' ∧ Holds f [(4, .slice al ll.length cl), (5, .slice ar lr.length cr), (6, .slice at' lt.length ct), (17, .pointer (some ⟨bwa, 0, none⟩)), (19, .pointer (some ⟨b85, 0, none⟩)), (22, .int .i64 (i : Nat)), (23, .int .i64 (j : Nat)), (24, .int .i64 (n : Nat))]) (m := 300) ?_ ?_
  · exact ⟨0, 0, 0, sa, sb, Wa, Wb, D, Nat.zero_le _, Nat.zero_le _, Nat.zero_le _, rfl, hWa, hWb, ok1, okb, few1, fewb, hs, rfl, rfl, rfl, rfl, rfl, rfl, rfl, rfl, trivial⟩
  · rintro m f w ⟨i, j, n, sa, sb, Wa, Wb, D, hi1, hj1, hn3, rfl, hWa, hWb, ok1, okb, few1, fewb, hs, hfh⟩
    have hobt := hfh.chain
    obtain ⟨g, rfl⟩ := hobt
    refine CW.seq ?_
    refine CW.seqM (fun f w => ∃ go : Bool, (go = true → n < 300 ∧ (i < ll.length ∨ j < lr.length)) ∧ Step [] (Wa ++ (Wb ++ D)) w0 w ∧ Holds f [(116, .bool go), (4, .slice al ll.length cl), (5, .slice ar lr.length cr), (6, .slice at' lt.length ct), (17, .pointer (some ⟨bwa, 0, none⟩)), (19, .pointer (some ⟨b85, 0, none⟩)), (22, .int .i64 (i : Nat)), (23, .int .i64 (j : Nat)), (24, .int .i64 (n : Nat))]) ?_ ?_
    · by_cases h300 : n < 300
      · by_cases hlt0 : i < ll.length
        · repeat (first | refine CW.seq ?_ | refine CW.block ?_ | refine CW.skip ?_ | refine CW.label ?_ | refine CW.exit ?_ | refine CW.condT rfl ?_ | refine CW.condF rfl ?_)
          refine CW.reg ?_
          refine WL.val rfl (run_move) ?_
          refine WL.val rfl (run_bT (run_lss rfl rfl) (by omega)) ?_
          refine WL.val rfl (run_move) ?_
          first | (refine WL.yes rfl rfl rfl ?_; refine WL.val rfl (run_move) ?_) | refine WL.no rfl rfl rfl (.inl rfl) ?_ | refine WL.no rfl rfl rfl (.inr rfl) ?_
          first | (refine WL.yes rfl rfl rfl ?_; refine WL.val rfl (run_move) ?_) | refine WL.no rfl rfl rfl (.inl rfl) ?_ | refine WL.no rfl rfl rfl (.inr rfl) ?_
          first | (refine WL.yes rfl rfl rfl ?_; refine WL.val rfl (run_lenSl Try.underlying46 rfl) ?_) | refine WL.no rfl rfl rfl (.inl rfl) ?_ | refine WL.no rfl rfl rfl (.inr rfl) ?_
          refine WL.yes rfl rfl rfl ?_
          refine WL.val rfl (run_bT (run_lss rfl rfl) (by omega)) ?_
          first | (refine WL.yes rfl rfl rfl ?_; refine WL.val rfl (run_move) ?_) | refine WL.no rfl rfl rfl (.inl rfl) ?_ | refine WL.no rfl rfl rfl (.inr rfl) ?_
          first | (refine WL.yes rfl rfl rfl ?_; refine WL.val rfl (run_move) ?_) | refine WL.no rfl rfl rfl (.inl rfl) ?_ | refine WL.no rfl rfl rfl (.inr rfl) ?_
          first | (refine WL.yes rfl rfl rfl ?_; refine WL.val rfl (run_move) ?_) | refine WL.no rfl rfl rfl (.inl rfl) ?_ | refine WL.no rfl rfl rfl (.inr rfl) ?_
          first | (refine WL.yes rfl rfl rfl ?_; refine WL.val rfl (run_lenSl Try.underlying46 rfl) ?_) | refine WL.no rfl rfl rfl (.inl rfl) ?_ | refine WL.no rfl rfl rfl (.inr rfl) ?_
          first | (refine WL.yes rfl rfl rfl ?_; refine WL.val rfl (run_lss rfl rfl) ?_) | refine WL.no rfl rfl rfl (.inl rfl) ?_ | refine WL.no rfl rfl rfl (.inr rfl) ?_
          first | (refine WL.yes rfl rfl rfl ?_; (first | refine WL.val rfl (run_pickT rfl) ?_ | refine WL.val rfl (run_pickF rfl) ?_)) | refine WL.no rfl rfl rfl (.inl rfl) ?_ | refine WL.no rfl rfl rfl (.inr rfl) ?_
          first | refine WL.val rfl (run_pickT rfl) ?_ | refine WL.val rfl (run_pickF rfl) ?_
          refine WL.nil ?_
          repeat (first | refine CW.seq ?_ | refine CW.block ?_ | refine CW.skip ?_ | refine CW.label ?_ | refine CW.exit ?_ | refine CW.condT rfl ?_ | refine CW.condF rfl ?_)
          exact ⟨rfl, true, fun _ => ⟨h300, .inl hlt0⟩, hs, rfl, rfl, rfl, rfl, rfl, rfl, rfl, rfl, rfl, trivial⟩
        · by_cases hjt0 : j < lr.length
          · repeat (first | refine CW.seq ?_ | refine CW.block ?_ | refine CW.skip ?_ | refine CW.label ?_ | refine CW.exit ?_ | refine CW.condT rfl ?_ | refine CW.condF rfl ?_)
            refine CW.reg ?_
            refine WL.val rfl (run_move) ?_
            refine WL.val rfl (run_bT (run_lss rfl rfl) (by omega)) ?_
            refine WL.val rfl (run_move) ?_
            first | (refine WL.yes rfl rfl rfl ?_; refine WL.val rfl (run_move) ?_) | refine WL.no rfl rfl rfl (.inl rfl) ?_ | refine WL.no rfl rfl rfl (.inr rfl) ?_
            first | (refine WL.yes rfl rfl rfl ?_; refine WL.val rfl (run_move) ?_) | refine WL.no rfl rfl rfl (.inl rfl) ?_ | refine WL.no rfl rfl rfl (.inr rfl) ?_
            first | (refine WL.yes rfl rfl rfl ?_; refine WL.val rfl (run_lenSl Try.underlying46 rfl) ?_) | refine WL.no rfl rfl rfl (.inl rfl) ?_ | refine WL.no rfl rfl rfl (.inr rfl) ?_
            refine WL.yes rfl rfl rfl ?_
            refine WL.val rfl (run_bF (run_lss rfl rfl) (by omega)) ?_
            first | (refine WL.yes rfl rfl rfl ?_; refine WL.val rfl (run_move) ?_) | refine WL.no rfl rfl rfl (.inl rfl) ?_ | refine WL.no rfl rfl rfl (.inr rfl) ?_
            first | (refine WL.yes rfl rfl rfl ?_; refine WL.val rfl (run_move) ?_) | refine WL.no rfl rfl rfl (.inl rfl) ?_ | refine WL.no rfl rfl rfl (.inr rfl) ?_
            first | (refine WL.yes rfl rfl rfl ?_; refine WL.val rfl (run_move) ?_) | refine WL.no rfl rfl rfl (.inl rfl) ?_ | refine WL.no rfl rfl rfl (.inr rfl) ?_
            first | (refine WL.yes rfl rfl rfl ?_; refine WL.val rfl (run_lenSl Try.underlying46 rfl) ?_) | refine WL.no rfl rfl rfl (.inl rfl) ?_ | refine WL.no rfl rfl rfl (.inr rfl) ?_
            refine WL.yes rfl rfl rfl ?_
            refine WL.val rfl (run_bT (run_lss rfl rfl) (by omega)) ?_
            first | (refine WL.yes rfl rfl rfl ?_; (first | refine WL.val rfl (run_pickT rfl) ?_ | refine WL.val rfl (run_pickF rfl) ?_)) | refine WL.no rfl rfl rfl (.inl rfl) ?_ | refine WL.no rfl rfl rfl (.inr rfl) ?_
            first | refine WL.val rfl (run_pickT rfl) ?_ | refine WL.val rfl (run_pickF rfl) ?_
            refine WL.nil ?_
            repeat (first | refine CW.seq ?_ | refine CW.block ?_ | refine CW.skip ?_ | refine CW.label ?_ | refine CW.exit ?_ | refine CW.condT rfl ?_ | refine CW.condF rfl ?_)
            exact ⟨rfl, true, fun _ => ⟨h300, .inr hjt0⟩, hs, rfl, rfl, rfl, rfl, rfl, rfl, rfl, rfl, rfl, trivial⟩
          · repeat (first | refine CW.seq ?_ | refine CW.block ?_ | refine CW.skip ?_ | refine CW.label ?_ | refine CW.exit ?_ | refine CW.condT rfl ?_ | refine CW.condF rfl ?_)
            refine CW.reg ?_
            refine WL.val rfl (run_move) ?_
            refine WL.val rfl (run_bT (run_lss rfl rfl) (by omega)) ?_
            refine WL.val rfl (run_move) ?_
            first | (refine WL.yes rfl rfl rfl ?_; refine WL.val rfl (run_move) ?_) | refine WL.no rfl rfl rfl (.inl rfl) ?_ | refine WL.no rfl rfl rfl (.inr rfl) ?_
            first | (refine WL.yes rfl rfl rfl ?_; refine WL.val rfl (run_move) ?_) | refine WL.no rfl rfl rfl (.inl rfl) ?_ | refine WL.no rfl rfl rfl (.inr rfl) ?_
            first | (refine WL.yes rfl rfl rfl ?_; refine WL.val rfl (run_lenSl Try.underlying46 rfl) ?_) | refine WL.no rfl rfl rfl (.inl rfl) ?_ | refine WL.no rfl rfl rfl (.inr rfl) ?_
            refine WL.yes rfl rfl rfl ?_
            refine WL.val rfl (run_bF (run_lss rfl rfl) (by omega)) ?_
            first | (refine WL.yes rfl rfl rfl ?_; refine WL.val rfl (run_move) ?_) | refine WL.no rfl rfl rfl (.inl rfl) ?_ | refine WL.no rfl rfl rfl (.inr rfl) ?_
            first | (refine WL.yes rfl rfl rfl ?_; refine WL.val rfl (run_move) ?_) | refine WL.no rfl rfl rfl (.inl rfl) ?_ | refine WL.no rfl rfl rfl (.inr rfl) ?_
            first | (refine WL.yes rfl rfl rfl ?_; refine WL.val rfl (run_move) ?_) | refine WL.no rfl rfl rfl (.inl rfl) ?_ | refine WL.no rfl rfl rfl (.inr rfl) ?_
            first | (refine WL.yes rfl rfl rfl ?_; refine WL.val rfl (run_lenSl Try.underlying46 rfl) ?_) | refine WL.no rfl rfl rfl (.inl rfl) ?_ | refine WL.no rfl rfl rfl (.inr rfl) ?_
            refine WL.yes rfl rfl rfl ?_
            refine WL.val rfl (run_bF (run_lss rfl rfl) (by omega)) ?_
            first | (refine WL.yes rfl rfl rfl ?_; (first | refine WL.val rfl (run_pickT rfl) ?_ | refine WL.val rfl (run_pickF rfl) ?_)) | refine WL.no rfl rfl rfl (.inl rfl) ?_ | refine WL.no rfl rfl rfl (.inr rfl) ?_
            first | refine WL.val rfl (run_pickT rfl) ?_ | refine WL.val rfl (run_pickF rfl) ?_
            refine WL.nil ?_
            repeat (first | refine CW.seq ?_ | refine CW.block ?_ | refine CW.skip ?_ | refine CW.label ?_ | refine CW.exit ?_ | refine CW.condT rfl ?_ | refine CW.condF rfl ?_)
            exact ⟨rfl, false, (fun h => by cases h), hs, rfl, rfl, rfl, rfl, rfl, rfl, rfl, rfl, rfl, trivial⟩
      · repeat (first | refine CW.seq ?_ | refine CW.block ?_ | refine CW.skip ?_ | refine CW.label ?_ | refine CW.exit ?_ | refine CW.condT rfl ?_ | refine CW.condF rfl ?_)
        refine CW.reg ?_
        refine WL.val rfl (run_move) ?_
        refine WL.val rfl (run_bF (run_lss rfl rfl) (by omega)) ?_
        refine WL.val rfl (run_move) ?_
        first | (refine WL.yes rfl rfl rfl ?_; refine WL.val rfl (run_move) ?_) | refine WL.no rfl rfl rfl (.inl rfl) ?_ | refine WL.no rfl rfl rfl (.inr rfl) ?_
        first | (refine WL.yes rfl rfl rfl ?_; refine WL.val rfl (run_move) ?_) | refine WL.no rfl rfl rfl (.inl rfl) ?_ | refine WL.no rfl rfl rfl (.inr rfl) ?_
        first | (refine WL.yes rfl rfl rfl ?_; refine WL.val rfl (run_lenSl Try.underlying46 rfl) ?_) | refine WL.no rfl rfl rfl (.inl rfl) ?_ | refine WL.no rfl rfl rfl (.inr rfl) ?_
        first | (refine WL.yes rfl rfl rfl ?_; refine WL.val rfl (run_lss rfl rfl) ?_) | refine WL.no rfl rfl rfl (.inl rfl) ?_ | refine WL.no rfl rfl rfl (.inr rfl) ?_
        first | (refine WL.yes rfl rfl rfl ?_; refine WL.val rfl (run_move) ?_) | refine WL.no rfl rfl rfl (.inl rfl) ?_ | refine WL.no rfl rfl rfl (.inr rfl) ?_
        first | (refine WL.yes rfl rfl rfl ?_; refine WL.val rfl (run_move) ?_) | refine WL.no rfl rfl rfl (.inl rfl) ?_ | refine WL.no rfl rfl rfl (.inr rfl) ?_
        first | (refine WL.yes rfl rfl rfl ?_; refine WL.val rfl (run_move) ?_) | refine WL.no rfl rfl rfl (.inl rfl) ?_ | refine WL.no rfl rfl rfl (.inr rfl) ?_
        first | (refine WL.yes rfl rfl rfl ?_; refine WL.val rfl (run_lenSl Try.underlying46 rfl) ?_) | refine WL.no rfl rfl rfl (.inl rfl) ?_ | refine WL.no rfl rfl rfl (.inr rfl) ?_
        first | (refine WL.yes rfl rfl rfl ?_; refine WL.val rfl (run_lss rfl rfl) ?_) | refine WL.no rfl rfl rfl (.inl rfl) ?_ | refine WL.no rfl rfl rfl (.inr rfl) ?_
        first | (refine WL.yes rfl rfl rfl ?_; (first | refine WL.val rfl (run_pickT rfl) ?_ | refine WL.val rfl (run_pickF rfl) ?_)) | refine WL.no rfl rfl rfl (.inl rfl) ?_ | refine WL.no rfl rfl rfl (.inr rfl) ?_
        first | refine WL.val rfl (run_pickT rfl) ?_ | refine WL.val rfl (run_pickF rfl) ?_
        refine WL.nil ?_
        repeat (first | refine CW.seq ?_ | refine CW.block ?_ | refine CW.skip ?_ | refine CW.label ?_ | refine CW.exit ?_ | refine CW.condT rfl ?_ | refine CW.condF rfl ?_)
        exact ⟨rfl, false, (fun h => by cases h), hs, rfl, rfl, rfl, rfl, rfl, rfl, rfl, rfl, rfl, trivial⟩
    clear hs hfh
    rintro f w ⟨go, hgo, hs, hfh⟩
    have hobt := hfh.chain
    obtain ⟨g, rfl⟩ := hobt
    rcases Bool.eq_false_or_eq_true go with rfl | rfl
    · have hobt := hgo rfl
      obtain ⟨h300, hij⟩ := hobt
      repeat (first | refine CW.seq ?_ | refine CW.block ?_ | refine CW.skip ?_ | refine CW.label ?_ | refine CW.exit ?_)
      first | refine CW.condP rfl (fun h => ?_) (fun h => ?_) | refine CW.cond rfl (fun h => ?_) (fun h => ?_)
      · refine CW.skip ?_
        refine CW.seq ?_
        refine CW.block ?_
        refine CW.seqM (fun f w => ∃ sec : Bool, Step [] (Wa ++ (Wb ++ D)) w0 w ∧ Holds f [(25, .bool sec), (4, .slice al ll.length cl), (5, .slice ar lr.length cr), (6, .slice at' lt.length ct), (17, .pointer (some ⟨bwa, 0, none⟩)), (19, .pointer (some ⟨b85, 0, none⟩)), (22, .int .i64 (i : Nat)), (23, .int .i64 (j : Nat)), (24, .int .i64 (n : Nat))]) ?_ ?_
        · by_cases ht0 : lt.length = 0
          · repeat (first | refine CW.seq ?_ | refine CW.block ?_ | refine CW.skip ?_ | refine CW.label ?_ | refine CW.exit ?_ | refine CW.condT rfl ?_ | refine CW.condF rfl ?_)
            refine CW.reg ?_
            refine WL.val rfl (run_move) ?_
            refine WL.val rfl (run_lenSl Try.underlying78 rfl) ?_
            refine WL.val rfl (run_bF (run_gtr rfl rfl) (by omega)) ?_
            refine WL.val rfl (run_move) ?_
            first | (refine WL.yes rfl rfl rfl ?_; refine WL.val rfl (run_move) ?_) | refine WL.no rfl rfl rfl (.inl rfl) ?_ | refine WL.no rfl rfl rfl (.inr rfl) ?_
            first | (refine WL.yes rfl rfl rfl ?_; refine WL.val rfl (run_move) ?_) | refine WL.no rfl rfl rfl (.inl rfl) ?_ | refine WL.no rfl rfl rfl (.inr rfl) ?_
            first | (refine WL.yes rfl rfl rfl ?_; refine WL.val rfl (run_move) ?_) | refine WL.no rfl rfl rfl (.inl rfl) ?_ | refine WL.no rfl rfl rfl (.inr rfl) ?_
            first | (refine WL.yes rfl rfl rfl ?_; refine WL.val rfl (run_lenSl Try.underlying78 rfl) ?_) | refine WL.no rfl rfl rfl (.inl rfl) ?_ | refine WL.no rfl rfl rfl (.inr rfl) ?_
            first | (refine WL.yes rfl rfl rfl ?_; refine WL.val rfl (run_rem rfl rfl (by omega)) ?_) | refine WL.no rfl rfl rfl (.inl rfl) ?_ | refine WL.no rfl rfl rfl (.inr rfl) ?_
            first | (refine WL.yes rfl rfl rfl ?_; (first | refine WL.val rfl (run_ixSlN Try.underlying78 ty3 rfl rfl (by omega)) ?_ | refine WL.val rfl (run_ixSl Try.underlying78 ty3 rfl rfl (by omega)) ?_)) | refine WL.no rfl rfl rfl (.inl rfl) ?_ | refine WL.no rfl rfl rfl (.inr rfl) ?_
            first | (refine WL.yes rfl rfl rfl ?_; (first | refine WL.val rfl (run_load1 ty3 rfl (hs.c0 rfl)) ?_ | refine WL.val rfl (run_load1 ty3 rfl (hs.c1 rfl)) ?_ | refine WL.val rfl (run_load1 ty3 rfl (hs.c2 rfl)) ?_ | refine WL.val rfl (run_load1 ty3 rfl (hs.c3 rfl)) ?_ | refine WL.val rfl (run_load1 ty3 rfl (hs.c4 rfl)) ?_ | refine WL.val rfl (run_load1 ty3 rfl (hs.c5 rfl)) ?_ | refine WL.val rfl (run_load1 ty3 rfl (hs.c0 rfl)) ?_)) | refine WL.no rfl rfl rfl (.inl rfl) ?_ | refine WL.no rfl rfl rfl (.inr rfl) ?_
            first | (refine WL.yes rfl rfl rfl ?_; refine WL.val rfl (run_rem rfl rfl (by omega)) ?_) | refine WL.no rfl rfl rfl (.inl rfl) ?_ | refine WL.no rfl rfl rfl (.inr rfl) ?_
            first | (refine WL.yes rfl rfl rfl ?_; refine WL.val rfl (run_neq rfl rfl) ?_) | refine WL.no rfl rfl rfl (.inl rfl) ?_ | refine WL.no rfl rfl rfl (.inr rfl) ?_
            first | refine WL.val rfl (run_pickT rfl) ?_ | refine WL.val rfl (run_pickF rfl) ?_
            refine WL.val rfl (run_assign) ?_
            refine WL.nil ?_
            repeat (first | refine CW.seq ?_ | refine CW.block ?_ | refine CW.skip ?_ | refine CW.label ?_ | refine CW.exit ?_ | refine CW.condT rfl ?_ | refine CW.condF rfl ?_)
            exact ⟨rfl, false, hs, rfl, rfl, rfl, rfl, rfl, rfl, rfl, rfl, rfl, trivial⟩
          · have hmod : n % lt.length < lt.length := Nat.mod_lt _ (by omega)
            have hobt := ht.at hmod
            obtain ⟨bt, ot, ct', hct, hcell⟩ := hobt
            cases hct
            have hobt : ∃ z, lt[n % lt.length] = z := ⟨_, rfl⟩
            obtain ⟨z, hz⟩ := hobt
            rw [hz] at hcell
            have hcw := fun {w} (hs : Step [] (Wa ++ (Wb ++ D)) w0 w) => (hcell.step hs (by simp)).cell (j := 0) rfl
            by_cases hz2 : z.tmod 2 = 0
            · repeat (first | refine CW.seq ?_ | refine CW.block ?_ | refine CW.skip ?_ | refine CW.label ?_ | refine CW.exit ?_ | refine CW.condT rfl ?_ | refine CW.condF rfl ?_)
              refine CW.reg ?_
              refine WL.val rfl (run_move) ?_
              refine WL.val rfl (run_lenSl Try.underlying78 rfl) ?_
              refine WL.val rfl (run_bT (run_gtr rfl rfl) (by omega)) ?_
              refine WL.val rfl (run_move) ?_
              first | (refine WL.yes rfl rfl rfl ?_; refine WL.val rfl (run_move) ?_) | refine WL.no rfl rfl rfl (.inl rfl) ?_ | refine WL.no rfl rfl rfl (.inr rfl) ?_
              first | (refine WL.yes rfl rfl rfl ?_; refine WL.val rfl (run_move) ?_) | refine WL.no rfl rfl rfl (.inl rfl) ?_ | refine WL.no rfl rfl rfl (.inr rfl) ?_
              first | (refine WL.yes rfl rfl rfl ?_; refine WL.val rfl (run_move) ?_) | refine WL.no rfl rfl rfl (.inl rfl) ?_ | refine WL.no rfl rfl rfl (.inr rfl) ?_
              first | (refine WL.yes rfl rfl rfl ?_; refine WL.val rfl (run_lenSl Try.underlying78 rfl) ?_) | refine WL.no rfl rfl rfl (.inl rfl) ?_ | refine WL.no rfl rfl rfl (.inr rfl) ?_
              refine WL.yes rfl rfl rfl ?_
              refine WL.val rfl (run_remN rfl rfl (by omega)) ?_
              first | (refine WL.yes rfl rfl rfl ?_; (first | refine WL.val rfl (run_ixSlN Try.underlying78 ty3 rfl rfl (by omega)) ?_ | refine WL.val rfl (run_ixSl Try.underlying78 ty3 rfl rfl (by omega)) ?_)) | refine WL.no rfl rfl rfl (.inl rfl) ?_ | refine WL.no rfl rfl rfl (.inr rfl) ?_
              refine WL.yes rfl rfl rfl ?_
              refine WL.val rfl (run_load1 ty3 rfl (hcw hs)) ?_
              first | (refine WL.yes rfl rfl rfl ?_; refine WL.val rfl (run_rem rfl rfl (by omega)) ?_) | refine WL.no rfl rfl rfl (.inl rfl) ?_ | refine WL.no rfl rfl rfl (.inr rfl) ?_
              refine WL.yes rfl rfl rfl ?_
              refine WL.val rfl (run_bF (run_neq rfl rfl) (by exact fun h => h hz2)) ?_
              first | refine WL.val rfl (run_pickT rfl) ?_ | refine WL.val rfl (run_pickF rfl) ?_
              refine WL.val rfl (run_assign) ?_
              refine WL.nil ?_
              repeat (first | refine CW.seq ?_ | refine CW.block ?_ | refine CW.skip ?_ | refine CW.label ?_ | refine CW.exit ?_ | refine CW.condT rfl ?_ | refine CW.condF rfl ?_)
              exact ⟨rfl, false, hs, rfl, rfl, rfl, rfl, rfl, rfl, rfl, rfl, rfl, trivial⟩
            · repeat (first | refine CW.seq ?_ | refine CW.block ?_ | refine CW.skip ?_ | refine CW.label ?_ | refine CW.exit ?_ | refine CW.condT rfl ?_ | refine CW.condF rfl ?_)
              refine CW.reg ?_
              refine WL.val rfl (run_move) ?_
              refine WL.val rfl (run_lenSl Try.underlying78 rfl) ?_
              refine WL.val rfl (run_bT (run_gtr rfl rfl) (by omega)) ?_
              refine WL.val rfl (run_move) ?_
              first | (refine WL.yes rfl rfl rfl ?_; refine WL.val rfl (run_move) ?_) | refine WL.no rfl rfl rfl (.inl rfl) ?_ | refine WL.no rfl rfl rfl (.inr rfl) ?_
              first | (refine WL.yes rfl rfl rfl ?_; refine WL.val rfl (run_move) ?_) | refine WL.no rfl rfl rfl (.inl rfl) ?_ | refine WL.no rfl rfl rfl (.inr rfl) ?_
              first | (refine WL.yes rfl rfl rfl ?_; refine WL.val rfl (run_move) ?_) | refine WL.no rfl rfl rfl (.inl rfl) ?_ | refine WL.no rfl rfl rfl (.inr rfl) ?_
              first | (refine WL.yes rfl rfl rfl ?_; refine WL.val rfl (run_lenSl Try.underlying78 rfl) ?_) | refine WL.no rfl rfl rfl (.inl rfl) ?_ | refine WL.no rfl rfl rfl (.inr rfl) ?_
              refine WL.yes rfl rfl rfl ?_
              refine WL.val rfl (run_remN rfl rfl (by omega)) ?_
              first | (refine WL.yes rfl rfl rfl ?_; (first | refine WL.val rfl (run_ixSlN Try.underlying78 ty3 rfl rfl (by omega)) ?_ | refine WL.val rfl (run_ixSl Try.underlying78 ty3 rfl rfl (by omega)) ?_)) | refine WL.no rfl rfl rfl (.inl rfl) ?_ | refine WL.no rfl rfl rfl (.inr rfl) ?_
              refine WL.yes rfl rfl rfl ?_
              refine WL.val rfl (run_load1 ty3 rfl (hcw hs)) ?_
              first | (refine WL.yes rfl rfl rfl ?_; refine WL.val rfl (run_rem rfl rfl (by omega)) ?_) | refine WL.no rfl rfl rfl (.inl rfl) ?_ | refine WL.no rfl rfl rfl (.inr rfl) ?_
              refine WL.yes rfl rfl rfl ?_
              refine WL.val rfl (run_bT (run_neq rfl rfl) (by exact hz2)) ?_
              first | refine WL.val rfl (run_pickT rfl) ?_ | refine WL.val rfl (run_pickF rfl) ?_
              refine WL.val rfl (run_assign) ?_
              refine WL.nil ?_
              repeat (first | refine CW.seq ?_ | refine CW.block ?_ | refine CW.skip ?_ | refine CW.label ?_ | refine CW.exit ?_ | refine CW.condT rfl ?_ | refine CW.condF rfl ?_)
              exact ⟨rfl, true, hs, rfl, rfl, rfl, rfl, rfl, rfl, rfl, rfl, rfl, trivial⟩
        clear hs hfh
        rintro f w ⟨sec, hs, hfh⟩
        have hobt := hfh.chain
        obtain ⟨g, rfl⟩ := hobt
        refine CW.seq ?_
        refine CW.seqM (fun f w => ∃ right : Bool, (right = true → j < lr.length) ∧ (right = false → i < ll.length) ∧ Step [] (Wa ++ (Wb ++ D)) w0 w ∧ Holds f [(145, .bool right), (4, .slice al ll.length cl), (5, .slice ar lr.length cr), (6, .slice at' lt.length ct), (17, .pointer (some ⟨bwa, 0, none⟩)), (19, .pointer (some ⟨b85, 0, none⟩)), (22, .int .i64 (i : Nat)), (23, .int .i64 (j : Nat)), (24, .int .i64 (n : Nat))]) ?_ ?_
        · by_cases hlt : i < ll.length
          · by_cases hjs : sec = true ∧ j < lr.length
            · obtain ⟨rfl, hjt⟩ := hjs
              repeat (first | refine CW.seq ?_ | refine CW.block ?_ | refine CW.skip ?_ | refine CW.label ?_ | refine CW.exit ?_ | refine CW.condT rfl ?_ | refine CW.condF rfl ?_)
              refine CW.reg ?_
              refine WL.val rfl (run_move) ?_
              refine WL.val rfl (run_move) ?_
              first | (refine WL.yes rfl rfl rfl ?_; refine WL.val rfl (run_move) ?_) | refine WL.no rfl rfl rfl (.inl rfl) ?_ | refine WL.no rfl rfl rfl (.inr rfl) ?_
              first | (refine WL.yes rfl rfl rfl ?_; refine WL.val rfl (run_move) ?_) | refine WL.no rfl rfl rfl (.inl rfl) ?_ | refine WL.no rfl rfl rfl (.inr rfl) ?_
              first | (refine WL.yes rfl rfl rfl ?_; refine WL.val rfl (run_lenSl Try.underlying46 rfl) ?_) | refine WL.no rfl rfl rfl (.inl rfl) ?_ | refine WL.no rfl rfl rfl (.inr rfl) ?_
              refine WL.yes rfl rfl rfl ?_
              refine WL.val rfl (run_bT (run_lss rfl rfl) (by omega)) ?_
              first | refine WL.val rfl (run_pickT rfl) ?_ | refine WL.val rfl (run_pickF rfl) ?_
              refine WL.val rfl (run_move) ?_
              first | (refine WL.yes rfl rfl rfl ?_; refine WL.val rfl (run_move) ?_) | refine WL.no rfl rfl rfl (.inl rfl) ?_ | refine WL.no rfl rfl rfl (.inr rfl) ?_
              first | (refine WL.yes rfl rfl rfl ?_; refine WL.val rfl (run_move) ?_) | refine WL.no rfl rfl rfl (.inl rfl) ?_ | refine WL.no rfl rfl rfl (.inr rfl) ?_
              first | (refine WL.yes rfl rfl rfl ?_; refine WL.val rfl (run_lenSl Try.underlying46 rfl) ?_) | refine WL.no rfl rfl rfl (.inl rfl) ?_ | refine WL.no rfl rfl rfl (.inr rfl) ?_
              first | (refine WL.yes rfl rfl rfl ?_; refine WL.val rfl (run_geq rfl rfl) ?_) | refine WL.no rfl rfl rfl (.inl rfl) ?_ | refine WL.no rfl rfl rfl (.inr rfl) ?_
              first | refine WL.val rfl (run_pickT rfl) ?_ | refine WL.val rfl (run_pickF rfl) ?_
              refine WL.nil ?_
              repeat (first | refine CW.seq ?_ | refine CW.block ?_ | refine CW.skip ?_ | refine CW.label ?_ | refine CW.exit ?_ | refine CW.condT rfl ?_ | refine CW.condF rfl ?_)
              exact ⟨rfl, true, fun _ => hjt, (fun h => by cases h), hs, rfl, rfl, rfl, rfl, rfl, rfl, rfl, rfl, rfl, trivial⟩
            · rcases Bool.eq_false_or_eq_true sec with rfl | rfl
              · have hjt : ¬ j < lr.length := fun h => hjs ⟨rfl, h⟩
                repeat (first | refine CW.seq ?_ | refine CW.block ?_ | refine CW.skip ?_ | refine CW.label ?_ | refine CW.exit ?_ | refine CW.condT rfl ?_ | refine CW.condF rfl ?_)
                refine CW.reg ?_
                refine WL.val rfl (run_move) ?_
                refine WL.val rfl (run_move) ?_
                first | (refine WL.yes rfl rfl rfl ?_; refine WL.val rfl (run_move) ?_) | refine WL.no rfl rfl rfl (.inl rfl) ?_ | refine WL.no rfl rfl rfl (.inr rfl) ?_
                first | (refine WL.yes rfl rfl rfl ?_; refine WL.val rfl (run_move) ?_) | refine WL.no rfl rfl rfl (.inl rfl) ?_ | refine WL.no rfl rfl rfl (.inr rfl) ?_
                first | (refine WL.yes rfl rfl rfl ?_; refine WL.val rfl (run_lenSl Try.underlying46 rfl) ?_) | refine WL.no rfl rfl rfl (.inl rfl) ?_ | refine WL.no rfl rfl rfl (.inr rfl) ?_
                refine WL.yes rfl rfl rfl ?_
                refine WL.val rfl (run_bF (run_lss rfl rfl) (by omega)) ?_
                first | refine WL.val rfl (run_pickT rfl) ?_ | refine WL.val rfl (run_pickF rfl) ?_
                refine WL.val rfl (run_move) ?_
                first | (refine WL.yes rfl rfl rfl ?_; refine WL.val rfl (run_move) ?_) | refine WL.no rfl rfl rfl (.inl rfl) ?_ | refine WL.no rfl rfl rfl (.inr rfl) ?_
                first | (refine WL.yes rfl rfl rfl ?_; refine WL.val rfl (run_move) ?_) | refine WL.no rfl rfl rfl (.inl rfl) ?_ | refine WL.no rfl rfl rfl (.inr rfl) ?_
                first | (refine WL.yes rfl rfl rfl ?_; refine WL.val rfl (run_lenSl Try.underlying46 rfl) ?_) | refine WL.no rfl rfl rfl (.inl rfl) ?_ | refine WL.no rfl rfl rfl (.inr rfl) ?_
                refine WL.yes rfl rfl rfl ?_
                refine WL.val rfl (run_bF (run_geq rfl rfl) (by omega)) ?_
                first | refine WL.val rfl (run_pickT rfl) ?_ | refine WL.val rfl (run_pickF rfl) ?_
                refine WL.nil ?_
                repeat (first | refine CW.seq ?_ | refine CW.block ?_ | refine CW.skip ?_ | refine CW.label ?_ | refine CW.exit ?_ | refine CW.condT rfl ?_ | refine CW.condF rfl ?_)
                exact ⟨rfl, false, (fun h => by cases h), fun _ => hlt, hs, rfl, rfl, rfl, rfl, rfl, rfl, rfl, rfl, rfl, trivial⟩
              · repeat (first | refine CW.seq ?_ | refine CW.block ?_ | refine CW.skip ?_ | refine CW.label ?_ | refine CW.exit ?_ | refine CW.condT rfl ?_ | refine CW.condF rfl ?_)
                refine CW.reg ?_
                refine WL.val rfl (run_move) ?_
                refine WL.val rfl (run_move) ?_
                first | (refine WL.yes rfl rfl rfl ?_; refine WL.val rfl (run_move) ?_) | refine WL.no rfl rfl rfl (.inl rfl) ?_ | refine WL.no rfl rfl rfl (.inr rfl) ?_
                first | (refine WL.yes rfl rfl rfl ?_; refine WL.val rfl (run_move) ?_) | refine WL.no rfl rfl rfl (.inl rfl) ?_ | refine WL.no rfl rfl rfl (.inr rfl) ?_
                first | (refine WL.yes rfl rfl rfl ?_; refine WL.val rfl (run_lenSl Try.underlying46 rfl) ?_) | refine WL.no rfl rfl rfl (.inl rfl) ?_ | refine WL.no rfl rfl rfl (.inr rfl) ?_
                first | (refine WL.yes rfl rfl rfl ?_; refine WL.val rfl (run_lss rfl rfl) ?_) | refine WL.no rfl rfl rfl (.inl rfl) ?_ | refine WL.no rfl rfl rfl (.inr rfl) ?_
                first | refine WL.val rfl (run_pickT rfl) ?_ | refine WL.val rfl (run_pickF rfl) ?_
                refine WL.val rfl (run_move) ?_
                first | (refine WL.yes rfl rfl rfl ?_; refine WL.val rfl (run_move) ?_) | refine WL.no rfl rfl rfl (.inl rfl) ?_ | refine WL.no rfl rfl rfl (.inr rfl) ?_
                first | (refine WL.yes rfl rfl rfl ?_; refine WL.val rfl (run_move) ?_) | refine WL.no rfl rfl rfl (.inl rfl) ?_ | refine WL.no rfl rfl rfl (.inr rfl) ?_
                first | (refine WL.yes rfl rfl rfl ?_; refine WL.val rfl (run_lenSl Try.underlying46 rfl) ?_) | refine WL.no rfl rfl rfl (.inl rfl) ?_ | refine WL.no rfl rfl rfl (.inr rfl) ?_
                refine WL.yes rfl rfl rfl ?_
                refine WL.val rfl (run_bF (run_geq rfl rfl) (by omega)) ?_
                first | refine WL.val rfl (run_pickT rfl) ?_ | refine WL.val rfl (run_pickF rfl) ?_
                refine WL.nil ?_
                repeat (first | refine CW.seq ?_ | refine CW.block ?_ | refine CW.skip ?_ | refine CW.label ?_ | refine CW.exit ?_ | refine CW.condT rfl ?_ | refine CW.condF rfl ?_)
                exact ⟨rfl, false, (fun h => by cases h), fun _ => hlt, hs, rfl, rfl, rfl, rfl, rfl, rfl, rfl, rfl, rfl, trivial⟩
          · have hjt : j < lr.length := by omega
            rcases Bool.eq_false_or_eq_true sec with rfl | rfl
            · repeat (first | refine CW.seq ?_ | refine CW.block ?_ | refine CW.skip ?_ | refine CW.label ?_ | refine CW.exit ?_ | refine CW.condT rfl ?_ | refine CW.condF rfl ?_)
              refine CW.reg ?_
              refine WL.val rfl (run_move) ?_
              refine WL.val rfl (run_move) ?_
              first | (refine WL.yes rfl rfl rfl ?_; refine WL.val rfl (run_move) ?_) | refine WL.no rfl rfl rfl (.inl rfl) ?_ | refine WL.no rfl rfl rfl (.inr rfl) ?_
              first | (refine WL.yes rfl rfl rfl ?_; refine WL.val rfl (run_move) ?_) | refine WL.no rfl rfl rfl (.inl rfl) ?_ | refine WL.no rfl rfl rfl (.inr rfl) ?_
              first | (refine WL.yes rfl rfl rfl ?_; refine WL.val rfl (run_lenSl Try.underlying46 rfl) ?_) | refine WL.no rfl rfl rfl (.inl rfl) ?_ | refine WL.no rfl rfl rfl (.inr rfl) ?_
              refine WL.yes rfl rfl rfl ?_
              refine WL.val rfl (run_bT (run_lss rfl rfl) (by omega)) ?_
              first | refine WL.val rfl (run_pickT rfl) ?_ | refine WL.val rfl (run_pickF rfl) ?_
              refine WL.val rfl (run_move) ?_
              first | (refine WL.yes rfl rfl rfl ?_; refine WL.val rfl (run_move) ?_) | refine WL.no rfl rfl rfl (.inl rfl) ?_ | refine WL.no rfl rfl rfl (.inr rfl) ?_
              first | (refine WL.yes rfl rfl rfl ?_; refine WL.val rfl (run_move) ?_) | refine WL.no rfl rfl rfl (.inl rfl) ?_ | refine WL.no rfl rfl rfl (.inr rfl) ?_
              first | (refine WL.yes rfl rfl rfl ?_; refine WL.val rfl (run_lenSl Try.underlying46 rfl) ?_) | refine WL.no rfl rfl rfl (.inl rfl) ?_ | refine WL.no rfl rfl rfl (.inr rfl) ?_
              first | (refine WL.yes rfl rfl rfl ?_; refine WL.val rfl (run_geq rfl rfl) ?_) | refine WL.no rfl rfl rfl (.inl rfl) ?_ | refine WL.no rfl rfl rfl (.inr rfl) ?_
              first | refine WL.val rfl (run_pickT rfl) ?_ | refine WL.val rfl (run_pickF rfl) ?_
              refine WL.nil ?_
              repeat (first | refine CW.seq ?_ | refine CW.block ?_ | refine CW.skip ?_ | refine CW.label ?_ | refine CW.exit ?_ | refine CW.condT rfl ?_ | refine CW.condF rfl ?_)
              exact ⟨rfl, true, fun _ => hjt, (fun h => by cases h), hs, rfl, rfl, rfl, rfl, rfl, rfl, rfl, rfl, rfl, trivial⟩
            · repeat (first | refine CW.seq ?_ | refine CW.block ?_ | refine CW.skip ?_ | refine CW.label ?_ | refine CW.exit ?_ | refine CW.condT rfl ?_ | refine CW.condF rfl ?_)
              refine CW.reg ?_
              refine WL.val rfl (run_move) ?_
              refine WL.val rfl (run_move) ?_
              first | (refine WL.yes rfl rfl rfl ?_; refine WL.val rfl (run_move) ?_) | refine WL.no rfl rfl rfl (.inl rfl) ?_ | refine WL.no rfl rfl rfl (.inr rfl) ?_
              first | (refine WL.yes rfl rfl rfl ?_; refine WL.val rfl (run_move) ?_) | refine WL.no rfl rfl rfl (.inl rfl) ?_ | refine WL.no rfl rfl rfl (.inr rfl) ?_
              first | (refine WL.yes rfl rfl rfl ?_; refine WL.val rfl (run_lenSl Try.underlying46 rfl) ?_) | refine WL.no rfl rfl rfl (.inl rfl) ?_ | refine WL.no rfl rfl rfl (.inr rfl) ?_
              first | (refine WL.yes rfl rfl rfl ?_; refine WL.val rfl (run_lss rfl rfl) ?_) | refine WL.no rfl rfl rfl (.inl rfl) ?_ | refine WL.no rfl rfl rfl (.inr rfl) ?_
              first | refine WL.val rfl (run_pickT rfl) ?_ | refine WL.val rfl (run_pickF rfl) ?_
              refine WL.val rfl (run_move) ?_
              first | (refine WL.yes rfl rfl rfl ?_; refine WL.val rfl (run_move) ?_) | refine WL.no rfl rfl rfl (.inl rfl) ?_ | refine WL.no rfl rfl rfl (.inr rfl) ?_
              first | (refine WL.yes rfl rfl rfl ?_; refine WL.val rfl (run_move) ?_) | refine WL.no rfl rfl rfl (.inl rfl) ?_ | refine WL.no rfl rfl rfl (.inr rfl) ?_
              first | (refine WL.yes rfl rfl rfl ?_; refine WL.val rfl (run_lenSl Try.underlying46 rfl) ?_) | refine WL.no rfl rfl rfl (.inl rfl) ?_ | refine WL.no rfl rfl rfl (.inr rfl) ?_
              refine WL.yes rfl rfl rfl ?_
              refine WL.val rfl (run_bT (run_geq rfl rfl) (by omega)) ?_
              first | refine WL.val rfl (run_pickT rfl) ?_ | refine WL.val rfl (run_pickF rfl) ?_
              refine WL.nil ?_
              repeat (first | refine CW.seq ?_ | refine CW.block ?_ | refine CW.skip ?_ | refine CW.label ?_ | refine CW.exit ?_ | refine CW.condT rfl ?_ | refine CW.condF rfl ?_)
              exact ⟨rfl, true, fun _ => hjt, (fun h => by cases h), hs, rfl, rfl, rfl, rfl, rfl, rfl, rfl, rfl, rfl, trivial⟩
        clear hs hfh
        rintro f w ⟨right, hj2, hi2, hs, hfh⟩
        have hobt := hfh.chain
        obtain ⟨g, rfl⟩ := hobt
        rcases Bool.eq_false_or_eq_true right with rfl | rfl
        · have hjt := hj2 rfl
          have hobt : ∃ x, lr[j]? = some x := ⟨_, List.getElem?_eq_getElem hjt⟩
          obtain ⟨x, hx⟩ := hobt
          have hxo := hr.ok x (List.mem_of_getElem? hx)
          have hobt := hr.at hx
          obtain ⟨b, off, c0, hc0, hat⟩ := hobt
          cases hc0
          have hx3 := Stp.cells_len hxo
          repeat (first | refine CW.seq ?_ | refine CW.block ?_ | refine CW.skip ?_ | refine CW.label ?_ | refine CW.exit ?_ | refine CW.condT rfl ?_ | refine CW.condF rfl ?_)
          refine CW.reg ?_
          refine WL.val rfl (run_move) ?_
          refine WL.val rfl (run_move) ?_
          refine WL.val rfl (run_move) ?_
          first | refine WL.val rfl (run_ixSlN Try.underlying46 ty48 rfl rfl (by omega)) ?_ | refine WL.val rfl (run_ixSl Try.underlying46 ty48 rfl rfl (by omega)) ?_
          refine WL.val rfl (run_loadN ty48 rfl hx3 (hat.step hs (by simp))) ?_
          refine WL.enter rfl (run_call en32 rfl rfl) (wstep_at hWb okb fewb (by omega) (Two.rlive (A := []) hs) hs (fun p hp => List.mem_append_right _ hp) hxo) ?_
          rintro e w ⟨s2, W2, D2, rfl, hW2, ok2, few2, hk3, hq⟩
          refine ⟨_, rfl, ?_⟩
          replace hs := Two.rput (A := []) hs hq
          first | refine WL.val rfl (run_notB rfl) ?_ | refine WL.val rfl (run_not rfl) ?_
          refine WL.nil ?_
          repeat (first | refine CW.seq ?_ | refine CW.block ?_ | refine CW.skip ?_ | refine CW.label ?_ | refine CW.exit ?_)
          first | refine CW.condP rfl (fun h => ?_) (fun h => ?_) | refine CW.cond rfl (fun h => ?_) (fun h => ?_)
          · cases h
          repeat (first | refine CW.seq ?_ | refine CW.block ?_ | refine CW.skip ?_ | refine CW.label ?_ | refine CW.exit ?_ | refine CW.condT rfl ?_ | refine CW.condF rfl ?_)
          refine CW.reg ?_
          refine WL.val rfl (run_move) ?_
          refine WL.val rfl (run_add (c := ((j + 1 : Nat) : Int)) rfl rfl (by omega) (by omega)) ?_
          refine WL.val rfl (run_assign) ?_
          refine WL.nil ?_
          repeat (first | refine CW.seq ?_ | refine CW.block ?_ | refine CW.skip ?_ | refine CW.label ?_ | refine CW.exit ?_ | refine CW.condT rfl ?_ | refine CW.condF rfl ?_)
          refine CW.reg ?_
          refine WL.val rfl (run_move) ?_
          refine WL.val rfl (run_add (c := ((n + 1 : Nat) : Int)) rfl rfl (by omega) (by omega)) ?_
          refine WL.val rfl (run_assign) ?_
          refine WL.nil ?_
          repeat (first | refine CW.seq ?_ | refine CW.block ?_ | refine CW.skip ?_ | refine CW.label ?_ | refine CW.exit ?_)
          refine (show _ ∧ _ from ⟨rfl, _, ?_, i, j + 1, n + 1, sa, s2, Wa, W2, D2 ++ D, by omega, by omega, by omega, rfl, hWa.mono (fun p hp => List.mem_append_right _ hp), hW2, ok1, ok2, few1.mono (by omega), few2, hs, rfl, rfl, rfl, rfl, rfl, rfl, rfl, rfl, trivial⟩)
          omega
        · have hlt := hi2 rfl
          have hobt : ∃ x, ll[i]? = some x := ⟨_, List.getElem?_eq_getElem hlt⟩
          obtain ⟨x, hx⟩ := hobt
          have hxo := hl.ok x (List.mem_of_getElem? hx)
          have hobt := hl.at hx
          obtain ⟨b, off, c0, hc0, hat⟩ := hobt
          cases hc0
          have hx3 := Stp.cells_len hxo
          repeat (first | refine CW.seq ?_ | refine CW.block ?_ | refine CW.skip ?_ | refine CW.label ?_ | refine CW.exit ?_ | refine CW.condT rfl ?_ | refine CW.condF rfl ?_)
          refine CW.reg ?_
          refine WL.val rfl (run_move) ?_
          refine WL.val rfl (run_move) ?_
          refine WL.val rfl (run_move) ?_
          first | refine WL.val rfl (run_ixSlN Try.underlying46 ty48 rfl rfl (by omega)) ?_ | refine WL.val rfl (run_ixSl Try.underlying46 ty48 rfl rfl (by omega)) ?_
          refine WL.val rfl (run_loadN ty48 rfl hx3 (hat.step hs (by simp))) ?_
          refine WL.enter rfl (run_call en32 rfl rfl) (wstep_at hWa ok1 few1 (by omega) (Two.live (A := []) hs) hs (fun p hp => mem_skip hp) hxo) ?_
          rintro e w ⟨s2, W2, D2, rfl, hW2, ok2, few2, hk3, hq⟩
          refine ⟨_, rfl, ?_⟩
          replace hs := Two.put (A := []) hs hq
          first | refine WL.val rfl (run_notB rfl) ?_ | refine WL.val rfl (run_not rfl) ?_
          refine WL.nil ?_
          repeat (first | refine CW.seq ?_ | refine CW.block ?_ | refine CW.skip ?_ | refine CW.label ?_ | refine CW.exit ?_)
          first | refine CW.condP rfl (fun h => ?_) (fun h => ?_) | refine CW.cond rfl (fun h => ?_) (fun h => ?_)
          · cases h
          repeat (first | refine CW.seq ?_ | refine CW.block ?_ | refine CW.skip ?_ | refine CW.label ?_ | refine CW.exit ?_ | refine CW.condT rfl ?_ | refine CW.condF rfl ?_)
          refine CW.reg ?_
          refine WL.val rfl (run_move) ?_
          refine WL.val rfl (run_add (c := ((i + 1 : Nat) : Int)) rfl rfl (by omega) (by omega)) ?_
          refine WL.val rfl (run_assign) ?_
          refine WL.nil ?_
          repeat (first | refine CW.seq ?_ | refine CW.block ?_ | refine CW.skip ?_ | refine CW.label ?_ | refine CW.exit ?_ | refine CW.condT rfl ?_ | refine CW.condF rfl ?_)
          refine CW.reg ?_
          refine WL.val rfl (run_move) ?_
          refine WL.val rfl (run_add (c := ((n + 1 : Nat) : Int)) rfl rfl (by omega) (by omega)) ?_
          refine WL.val rfl (run_assign) ?_
          refine WL.nil ?_
          repeat (first | refine CW.seq ?_ | refine CW.block ?_ | refine CW.skip ?_ | refine CW.label ?_ | refine CW.exit ?_)
          refine (show _ ∧ _ from ⟨rfl, _, ?_, i + 1, j, n + 1, s2, sb, W2, Wb, D2 ++ D, by omega, by omega, by omega, rfl, hW2, hWb.mono (fun p hp => List.mem_append_right _ hp), ok2, okb, few2, fewb.mono (by omega), hs, rfl, rfl, rfl, rfl, rfl, rfl, rfl, rfl, trivial⟩)
          omega
      · cases h
    · repeat (first | refine CW.seq ?_ | refine CW.block ?_ | refine CW.skip ?_ | refine CW.label ?_ | refine CW.exit ?_)
      first | refine CW.condP rfl (fun h => ?_) (fun h => ?_) | refine CW.cond rfl (fun h => ?_) (fun h => ?_)
      · cases h
      have hobt := hWa.open
      obtain ⟨p1, r1, v1, L1, R1, hR1, hT1, hm1, ho1⟩ := hobt
      have hobt := hWb.open
      obtain ⟨p2, r2, v2, L2, R2, hR2, hT2, hm2, ho2⟩ := hobt
      have hobt := hT1.cells
      obtain ⟨ra1, rc1, hc1⟩ := hobt
      have hobt := hT2.cells
      obtain ⟨ra2, rc2, hc2⟩ := hobt
      have h1 := fun {w} (hs : Step [] (Wa ++ (Wb ++ D)) w0 w) => ho1 (Two.live (A := []) hs)
      have h2 := fun {w} (hs : Step [] (Wa ++ (Wb ++ D)) w0 w) => ho2 (Two.rlive (A := []) hs)
      have g1 := few1.gets
      have q1 := few1.puts
      have g2 := fewb.gets
      have q2 := fewb.puts
      repeat (first | refine CW.seq ?_ | refine CW.block ?_ | refine CW.skip ?_ | refine CW.label ?_ | refine CW.exit ?_ | refine CW.condT rfl ?_ | refine CW.condF rfl ?_)
      refine CW.quiet mixedP (by kernel_rfl) hs ?_
      refine QL.val rfl (fun w hs => run_move) ?_
      refine QL.val rfl (fun w hs => run_nilCheck rfl) ?_
      refine QL.val rfl (fun w hs => run_field (o' := 0) Try.underlying64 rfl ty24 rfl rfl rfl) ?_
      refine QL.val rfl (fun w hs => run_load1 ty24 rfl ((h1 hs).2.2.1)) ?_
      refine QL.val rfl (fun w hs => run_move) ?_
      refine QL.val rfl (fun w hs => run_nilCheck rfl) ?_
      refine QL.val rfl (fun w hs => run_field (o' := 1) Try.underlying64 rfl ty62 rfl rfl rfl) ?_
      refine QL.val rfl (fun w hs => run_load1 ty62 rfl ((h1 hs).2.2.2)) ?_
      refine QL.enter rfl (fun w => run_call en33 rfl rfl) (fun w hs => alike_spec hR1 hT1 ok1 (h1 hs).1 (h1 hs).2.1) ?_
      refine QL.val rfl (fun w hs => run_move) ?_
      first | (refine QL.yes rfl rfl rfl ?_; refine QL.val rfl (fun w hs => run_move) ?_) | refine QL.no rfl rfl rfl (.inl rfl) ?_ | refine QL.no rfl rfl rfl (.inr rfl) ?_
      first | (refine QL.yes rfl rfl rfl ?_; refine QL.val rfl (fun w hs => run_nilCheck rfl) ?_) | refine QL.no rfl rfl rfl (.inl rfl) ?_ | refine QL.no rfl rfl rfl (.inr rfl) ?_
      first | (refine QL.yes rfl rfl rfl ?_; refine QL.val rfl (fun w hs => run_field (o' := 0) Try.underlying64 rfl ty24 rfl rfl rfl) ?_) | refine QL.no rfl rfl rfl (.inl rfl) ?_ | refine QL.no rfl rfl rfl (.inr rfl) ?_
      refine QL.yes rfl rfl rfl ?_
      refine QL.val rfl (fun w hs => run_load1 ty24 rfl ((h2 hs).2.2.1)) ?_
      first | (refine QL.yes rfl rfl rfl ?_; refine QL.val rfl (fun w hs => run_move) ?_) | refine QL.no rfl rfl rfl (.inl rfl) ?_ | refine QL.no rfl rfl rfl (.inr rfl) ?_
      first | (refine QL.yes rfl rfl rfl ?_; refine QL.val rfl (fun w hs => run_nilCheck rfl) ?_) | refine QL.no rfl rfl rfl (.inl rfl) ?_ | refine QL.no rfl rfl rfl (.inr rfl) ?_
      first | (refine QL.yes rfl rfl rfl ?_; refine QL.val rfl (fun w hs => run_field (o' := 1) Try.underlying64 rfl ty62 rfl rfl rfl) ?_) | refine QL.no rfl rfl rfl (.inl rfl) ?_ | refine QL.no rfl rfl rfl (.inr rfl) ?_
      refine QL.yes rfl rfl rfl ?_
      refine QL.val rfl (fun w hs => run_load1 ty62 rfl ((h2 hs).2.2.2)) ?_
      refine QL.yes rfl rfl rfl ?_
      refine QL.enter rfl (fun w => run_call en33 rfl rfl) (fun w hs => alike_spec hR2 hT2 okb (h2 hs).1 (h2 hs).2.1) ?_
      first | refine QL.val rfl (fun w hs => run_pickT rfl) ?_ | refine QL.val rfl (fun w hs => run_pickF rfl) ?_
      refine QL.val rfl (fun w hs => run_move) ?_
      first | (refine QL.yes rfl rfl rfl ?_; refine QL.val rfl (fun w hs => run_move) ?_) | refine QL.no rfl rfl rfl (.inl rfl) ?_ | refine QL.no rfl rfl rfl (.inr rfl) ?_
      first | (refine QL.yes rfl rfl rfl ?_; refine QL.val rfl (fun w hs => run_nilCheck rfl) ?_) | refine QL.no rfl rfl rfl (.inl rfl) ?_ | refine QL.no rfl rfl rfl (.inr rfl) ?_
      first | (refine QL.yes rfl rfl rfl ?_; refine QL.val rfl (fun w hs => run_field (o' := 0) Try.underlying64 rfl ty24 rfl rfl rfl) ?_) | refine QL.no rfl rfl rfl (.inl rfl) ?_ | refine QL.no rfl rfl rfl (.inr rfl) ?_
      refine QL.yes rfl rfl rfl ?_
      refine QL.val rfl (fun w hs => run_load1 ty24 rfl ((h1 hs).2.2.1)) ?_
      refine QL.yes rfl rfl rfl ?_
      refine QL.enter rfl (fun w => run_call en34 rfl rfl) (fun w hs => counts_abs hR1 ok1 (h1 hs).1) ?_
      first | (refine QL.yes rfl rfl rfl ?_; refine QL.val rfl (fun w hs => run_move) ?_) | refine QL.no rfl rfl rfl (.inl rfl) ?_ | refine QL.no rfl rfl rfl (.inr rfl) ?_
      first | (refine QL.yes rfl rfl rfl ?_; refine QL.val rfl (fun w hs => run_nilCheck rfl) ?_) | refine QL.no rfl rfl rfl (.inl rfl) ?_ | refine QL.no rfl rfl rfl (.inr rfl) ?_
      first | (refine QL.yes rfl rfl rfl ?_; refine QL.val rfl (fun w hs => run_field (o' := 1) Try.underlying64 rfl ty62 rfl rfl rfl) ?_) | refine QL.no rfl rfl rfl (.inl rfl) ?_ | refine QL.no rfl rfl rfl (.inr rfl) ?_
      refine QL.yes rfl rfl rfl ?_
      refine QL.val rfl (fun w hs => run_load1 ty62 rfl ((h1 hs).2.2.2)) ?_
      first | (refine QL.yes rfl rfl rfl ?_; refine QL.val rfl (fun w hs => run_nilCheck rfl) ?_) | refine QL.no rfl rfl rfl (.inl rfl) ?_ | refine QL.no rfl rfl rfl (.inr rfl) ?_
      first | (refine QL.yes rfl rfl rfl ?_; refine QL.val rfl (fun w hs => run_field (o' := 4) Try.underlying70 rfl ty66 rfl rfl rfl) ?_) | refine QL.no rfl rfl rfl (.inl rfl) ?_ | refine QL.no rfl rfl rfl (.inr rfl) ?_
      refine QL.yes rfl rfl rfl ?_
      refine QL.val rfl (fun w hs => run_loadN ty66 rfl rfl (show At _ r1 (0 + 4) [.int .i64 (sa.gets : Nat), .int .i64 (sa.puts : Nat)] from (hc1 (h1 hs).2.1).drop 4)) ?_
      refine QL.yes rfl rfl rfl ?_
      refine QL.val rfl (fun w hs => run_eqCnt (by omega) (by omega) rfl rfl) ?_
      first | refine QL.val rfl (fun w hs => run_pickT rfl) ?_ | refine QL.val rfl (fun w hs => run_pickF rfl) ?_
      refine QL.val rfl (fun w hs => run_move) ?_
      first | (refine QL.yes rfl rfl rfl ?_; refine QL.val rfl (fun w hs => run_move) ?_) | refine QL.no rfl rfl rfl (.inl rfl) ?_ | refine QL.no rfl rfl rfl (.inr rfl) ?_
      first | (refine QL.yes rfl rfl rfl ?_; refine QL.val rfl (fun w hs => run_nilCheck rfl) ?_) | refine QL.no rfl rfl rfl (.inl rfl) ?_ | refine QL.no rfl rfl rfl (.inr rfl) ?_
      first | (refine QL.yes rfl rfl rfl ?_; refine QL.val rfl (fun w hs => run_field (o' := 0) Try.underlying64 rfl ty24 rfl rfl rfl) ?_) | refine QL.no rfl rfl rfl (.inl rfl) ?_ | refine QL.no rfl rfl rfl (.inr rfl) ?_
      refine QL.yes rfl rfl rfl ?_
      refine QL.val rfl (fun w hs => run_load1 ty24 rfl ((h2 hs).2.2.1)) ?_
      refine QL.yes rfl rfl rfl ?_
      refine QL.enter rfl (fun w => run_call en34 rfl rfl) (fun w hs => counts_abs hR2 okb (h2 hs).1) ?_
      first | (refine QL.yes rfl rfl rfl ?_; refine QL.val rfl (fun w hs => run_move) ?_) | refine QL.no rfl rfl rfl (.inl rfl) ?_ | refine QL.no rfl rfl rfl (.inr rfl) ?_
      first | (refine QL.yes rfl rfl rfl ?_; refine QL.val rfl (fun w hs => run_nilCheck rfl) ?_) | refine QL.no rfl rfl rfl (.inl rfl) ?_ | refine QL.no rfl rfl rfl (.inr rfl) ?_
      first | (refine QL.yes rfl rfl rfl ?_; refine QL.val rfl (fun w hs => run_field (o' := 1) Try.underlying64 rfl ty62 rfl rfl rfl) ?_) | refine QL.no rfl rfl rfl (.inl rfl) ?_ | refine QL.no rfl rfl rfl (.inr rfl) ?_
      refine QL.yes rfl rfl rfl ?_
      refine QL.val rfl (fun w hs => run_load1 ty62 rfl ((h2 hs).2.2.2)) ?_
      first | (refine QL.yes rfl rfl rfl ?_; refine QL.val rfl (fun w hs => run_nilCheck rfl) ?_) | refine QL.no rfl rfl rfl (.inl rfl) ?_ | refine QL.no rfl rfl rfl (.inr rfl) ?_
      first | (refine QL.yes rfl rfl rfl ?_; refine QL.val rfl (fun w hs => run_field (o' := 4) Try.underlying70 rfl ty66 rfl rfl rfl) ?_) | refine QL.no rfl rfl rfl (.inl rfl) ?_ | refine QL.no rfl rfl rfl (.inr rfl) ?_
      refine QL.yes rfl rfl rfl ?_
      refine QL.val rfl (fun w hs => run_loadN ty66 rfl rfl (show At _ r2 (0 + 4) [.int .i64 (sb.gets : Nat), .int .i64 (sb.puts : Nat)] from (hc2 (h2 hs).2.1).drop 4)) ?_
      refine QL.yes rfl rfl rfl ?_
      refine QL.val rfl (fun w hs => run_eqCnt (by omega) (by omega) rfl rfl) ?_
      first | refine QL.val rfl (fun w hs => run_pickT rfl) ?_ | refine QL.val rfl (fun w hs => run_pickF rfl) ?_
      refine QL.val rfl (fun w hs => run_move) ?_
      refine QL.yes rfl rfl rfl ?_
      refine QL.enter rfl (fun w => run_call en10 rfl rfl) (fun w hs => head_spec _) ?_
      first | refine QL.val rfl (fun w hs => run_pickT rfl) ?_ | refine QL.val rfl (fun w hs => run_pickF rfl) ?_
      refine QL.val rfl (fun w hs => run_assign) ?_
      refine QL.nil (fun w hs => ?_)
      repeat (first | refine CW.seq ?_ | refine CW.block ?_ | refine CW.skip ?_ | refine CW.label ?_ | refine CW.exit ?_ | refine CW.condT rfl ?_ | refine CW.condF rfl ?_)
      refine CW.ret ?_
      refine fin_ret1 rfl ?_
      exact ⟨rfl, hs.clear⟩
end Go.Gx
/-! CasApart -/
namespace Go.Proofs.Ytakhjiecinpmiaa.casApart
open Go.ChangeShapes Go.WideShapes Go.ChangeAt Go.RowKit
set_option linter.unusedVariables false

theorem own : ownKnob Try.prog.godebug = none := by kernel_rfl
theorem laid : laidOutB Try.prog = true := by kernel_rfl

set_option maxRecDepth 100000 in
theorem lifted (os : Os) (started : os.Started) (H : Type) (enc : TypeId × Value → H) :
    ReturnsInHanded {} Try.checked os 9 .any (Rows.casApartSpec.pre6 enc Try.prog Try.f9 Rows.casApartRow.domain false) (Rows.casApartSpec.post enc Try.prog Try.f9 false true false false) := by
  refine returnsInHanded_of_change (C := Try.checked) own started (by kernel_rfl) Try.func9
    (ChangeSpec.witness6 (enc := enc) (C := Try.checked) false ⟨#[], #[.int .i64 0, .int .i64 0, .int .i64 0, .slice none 0 0, .slice none 0 0, .slice none 0 0, .slice none 0 0, .bool false], []⟩ 12 (by kernel_rfl) (by kernel_rfl) (by kernel_rfl) (by kernel_rfl)) ?_
  intro W base args ds gs before hval0 hW hcnd _
  have hval : ∀ (j : Nat) t v, Try.f9.params[j]? = some t → args[j]? = some v → Value.okWide Try.prog W .any base t v := hval0
  have hW' := hW
  obtain ⟨p, q, hA0, hV, rfl, hfz, hnd⟩ := hW
  have hA : DataW.TrodAll enc Try.prog W 0 (fun _ => true) true Try.f9.params.toList args.toList ds p := hA0
  rw [Try.params9] at hA hval
  obtain ⟨rfl, rfl⟩ := trodVars_none hV
  obtain ⟨vs, hargs, hA⟩ : ∃ vs, args = vs.toArray ∧ DataW.TrodAll enc Try.prog W 0 (fun _ => true) true [3, 3, 3, 46, 46, 46, 78, 4] vs ds p := ⟨args.toList, rfl, hA⟩
  obtain rfl := hargs
  have hA1 := hA
  obtain ⟨v0, vs0, d0, ds0, p0, q0, rfl, rfl, rfl, h0, hA⟩ := trodAll_cons hA
  obtain ⟨v1, vs1, d1, ds1, p1, q1, rfl, rfl, rfl, h1, hA⟩ := trodAll_cons hA
  obtain ⟨v2, vs2, d2, ds2, p2, q2, rfl, rfl, rfl, h2, hA⟩ := trodAll_cons hA
  obtain ⟨v3, vs3, d3, ds3, p3, q3, rfl, rfl, rfl, h3, hA⟩ := trodAll_cons hA
  obtain ⟨v4, vs4, d4, ds4, p4, q4, rfl, rfl, rfl, h4, hA⟩ := trodAll_cons hA
  obtain ⟨v5, vs5, d5, ds5, p5, q5, rfl, rfl, rfl, h5, hA⟩ := trodAll_cons hA
  obtain ⟨v6, vs6, d6, ds6, p6, q6, rfl, rfl, rfl, h6, hA⟩ := trodAll_cons hA
  obtain ⟨v7, vs7, d7, ds7, p7, q7, rfl, rfl, rfl, h7, hA⟩ := trodAll_cons hA
  obtain ⟨rfl, rfl, rfl⟩ := trodAll_nil hA
  clear hA hval0
  simp only [List.append_nil] at hW' hA1 hfz hnd
  obtain ⟨n0, hv0, hn0⟩ := Go.Gx.open_i64 (hval 0 3 v0 rfl rfl) h0
  obtain ⟨n1, hv1, hn1⟩ := Go.Gx.open_i64 (hval 1 3 v1 rfl rfl) h1
  obtain ⟨n2, hv2, hn2⟩ := Go.Gx.open_i64 (hval 2 3 v2 rfl rfl) h2
  obtain ⟨l3, he3, hr3, hn3⟩ := Go.Gx.open_steps (hval 3 46 v3 rfl rfl) h3
  obtain ⟨l4, he4, hr4, hn4⟩ := Go.Gx.open_steps (hval 4 46 v4 rfl rfl) h4
  obtain ⟨l5, he5, hr5, hn5⟩ := Go.Gx.open_steps (hval 5 46 v5 rfl rfl) h5
  obtain ⟨l6, he6, hr6, hn6⟩ := Go.Gx.open_nums (hval 6 78 v6 rfl rfl) h6
  obtain ⟨n7, hv7⟩ := Go.Gx.open_b (hval 7 4 v7 rfl rfl) h7
  subst hv0
  subst hv1
  subst hv2
  subst hv7
  refine (Go.Gx.casapart_spec W he3 he4 he5 he6).mono fun e W' ⟨he, hg⟩ => ?_
  subst he
  have hb := hg.below
  have hlt := fun x hx => hW'.lt x hx
  have hst := Go.Gx.trodAll_stays laid hb hA1 (by simpa using hlt) (by intro t ht; simp only [List.mem_cons, List.not_mem_nil, or_false] at ht; rcases ht with rfl | rfl | rfl | rfl | rfl | rfl | rfl | rfl <;> exact ⟨by kernel_rfl, of_decide_eq_true (by kernel_rfl)⟩)
  refine ⟨_, rfl, [d0, d1, d2, d3, d4, d5, d6, d7], [], _, [], _, [], hW', trodAll_cons_mk (shut_bool Try.underlying4 _) trodAll_mk0, hst, rfl, hb.frame _, fun h => by cases h⟩

theorem over : Rows.casApartRow.holds Try.pinned (OpenSpec.ofChange Rows.casApartSpec) :=
  OpenClaim.holds_of_wide 9 Try.f9 rfl rfl rfl rfl rfl rfl rfl ⟨rfl, rfl, rfl, rfl, rfl⟩ rfl rfl rfl rfl rfl (by kernel_rfl) Try.func9 (by kernel_rfl)
    (of_decide_eq_true (by kernel_rfl)) (by unfold Func.isWrapper; first | (rw [if_pos (by decide +kernel)]; kernel_rfl) | (rw [if_neg (by decide +kernel)]; exact ⟨rfl, rfl⟩))
    (fun os started H enc _ => lifted os started H enc)

/-- The statement. -/
theorem proved : Rows.CasApartSaid :=
  over
#print axioms proved
end Go.Proofs.Ytakhjiecinpmiaa.casApart
