/- NodeAny's walk. -/
import Derived.Test.YtkdmkjlchlcebaaSl4
import Derived.Test.YtkdmkjlchlcebaaChecks
namespace Go.Gx
open Go.Proofs
set_option linter.unusedVariables false
set_option linter.unusedSimpArgs false
set_option maxRecDepth 100000

theorem fill_agg {sz i : Nat} {acc cs : List Value} {ps : List (Nat × Value)} (h : cs.length = sz) (hb : i * sz + sz ≤ acc.length) : Instr.fill (fun i => some (i * sz, sz)) acc.toArray ((i, .agg cs.toArray) :: ps) = Instr.fill (fun i => some (i * sz, sz)) (splice acc (i * sz) cs).toArray ps := by
  have e : ((Value.agg cs.toArray).cells.zipIdx.foldl (fun (a : Array Value) (x : Value × Nat) => a.setIfInBounds (i * sz + x.2) x.1) acc.toArray) = (splice acc (i * sz) cs).toArray := by
    have h1 := fold_splice (i * sz) cs 0 acc (by omega)
    simp only [Value.cells, ← Array.foldl_toList, Array.toList_zipIdx]
    rw [h1]
    rfl
  simp only [Instr.fill]
  rw [if_neg (by simp [Value.cells, h]; exact hb), e]
theorem filledP2 {sz : Nat} {zs c1 c2 : List Value} (h1 : c1.length = sz) (h2 : c2.length = sz) (hz : zs.length = sz) : Filled sz 2 zs [(0, .agg c1.toArray), (1, .agg c2.toArray)] (c1 ++ c2) := by
  have hl : (List.replicate 2 zs).flatten.length = 2 * sz := by simp [hz]; omega
  unfold Filled
  rw [fill_agg h1 (by rw [hl]; omega), fill_agg h2 (by rw [length_splice (by rw [hl]; omega), hl]; omega)]
  have e : splice (splice (List.replicate 2 zs).flatten (0 * sz) c1) (1 * sz) c2 = c1 ++ c2 := by
    have e0 : (List.replicate 2 zs).flatten = [] ++ zs ++ zs := by simp [List.replicate]
    rw [e0, splice_mid (A := []) (by simp) (by rw [h1, hz])]
    have := splice_mid (A := c1) (M := zs) (R := []) (vs := c2) (off := 1 * sz) (by omega) (by rw [h2, hz])
    rw [List.append_nil, List.append_nil] at this
    rw [List.nil_append, this]
  rw [e]
  rfl

theorem Step.ends {S : List Nat} {A B : List (Nat × Obj)} {p q : Nat × Obj} {w w' : World} (h : Step S (A ++ p :: q :: B) w w') : Step S (B ++ p :: q :: A) w w' := by
  refine h.perm ?_
  refine List.Perm.trans List.perm_append_comm ?_
  refine List.Perm.trans ?_ List.perm_middle.symm
  refine List.Perm.cons _ ?_
  exact List.perm_middle.symm
theorem OwnSl.of_blk {E sz b cap k : Nat} {big : List Value} (h : big.length = cap * sz) (hk : k ≤ cap) : OwnSl E sz (.slice (some ⟨b, 0, none⟩) k cap) k (big.take (k * sz)) [(b, blk E big)] := by
  have hle : k * sz ≤ cap * sz := Nat.mul_le_mul_right _ hk
  exact ⟨by rw [List.length_take, h]; omega, .inr ⟨b, cap, big.drop (k * sz), rfl, by rw [List.take_append_drop], by rw [List.take_append_drop]; exact h⟩⟩

def kE (k : Int) : Ent := ⟨[], k, List.replicate 32 0⟩
theorem bld_kE (k : Int) (w : World) : (Instr.build 48 #[(1, .int .i64 k)]).run Try.prog w = .ok (.agg (kE k).cells.toArray) w := by kernel_rfl

/-- The last of what was appended. -/
theorem last_kind {v : Value} {k : Nat} {cs : List Value} {kd : Int} {Lv L : List (Nat × Obj)} {S : List Nat} {w0 w : World} (h : OwnSl 48 34 v (k + 2) (cs ++ ((kE kd).cells ++ (kE kd).cells)) Lv) (hs : Step S (Lv ++ L) w0 w) : ∃ b c, v = .slice (some ⟨b, 0, none⟩) (k + 2) c ∧ w.cell? ⟨b, 0 + (k + 1) * 34 + 1, none⟩ = some (.int .i64 kd) := by
  have hsm := h.some1 (by omega)
  obtain ⟨b, c, more, rfl, rfl, hc⟩ := hsm
  have hl := h.1
  have hkl : (kE kd).cells.length = 34 := rfl
  refine ⟨b, c, rfl, ?_⟩
  rw [cell_blk (hs.get (List.mem_append_left _ (List.mem_singleton.2 rfl)))]
  simp only [List.length_append, hkl] at hl
  rw [List.append_assoc, List.getElem?_append_right (by omega), List.append_assoc, List.getElem?_append_right (by omega), show 0 + (k + 1) * 34 + 1 - cs.length - (kE kd).cells.length = 1 by omega]
  rfl

set_option maxHeartbeats 1600000 in
theorem anyN_spec {v : Value} {l : List Ent} {x : Ent} {n : List UInt8} (w0 : World) (hl : Es w0 v l) (hx : x.ok) : Calls Try.prog 10 #[v, .agg x.cells.toArray, str n] w0 fun e w' => e = .returned (.bool true) ∧ Step [] [] w0 w' := by
  have hs : Step [] [] w0 w0 := Step.refl w0
  have hxl := Ent.cells_len hx
  have hobt := hl.2
  obtain ⟨ho, hb⟩ := hobt
  have hobt := hl.1.form
  obtain ⟨va, vc, rfl⟩ := hobt
  by_cases hbig : l.length > 4096
  · refine calls (n := 81) Try.func10 rfl rfl rfl ?_
    repeat (first | refine CW.seq ?_ | refine CW.block ?_ | refine CW.skip ?_ | refine CW.exit ?_ | refine CW.condT rfl ?_ | refine CW.condF rfl ?_)
    refine CW.reg ?_
    refine WL.box (cs := x.cells) rfl rfl rfl hs (fun b4 w hs => ?_)
    refine WL.val rfl (run_assign) ?_
    refine WL.nil ?_
    repeat (first | refine CW.seq ?_ | refine CW.block ?_ | refine CW.skip ?_ | refine CW.exit ?_ | refine CW.condT rfl ?_ | refine CW.condF rfl ?_)
    refine CW.reg ?_
    refine WL.enter rfl (run_call en11 rfl rfl) (known_spec _) ?_
    rintro e w ⟨rfl, hq⟩
    refine ⟨_, rfl, ?_⟩
    replace hs := hs.callE hq
    first | refine WL.val rfl (run_notB rfl) ?_ | refine WL.val rfl (run_not rfl) ?_
    refine WL.nil ?_
    repeat (first | refine CW.seq ?_ | refine CW.block ?_ | refine CW.skip ?_ | refine CW.exit ?_ | refine CW.condT rfl ?_ | refine CW.condF rfl ?_)
    refine CW.reg ?_
    refine WL.val rfl (run_move) ?_
    refine WL.val rfl (run_lenSl Try.underlying22 rfl) ?_
    refine WL.val rfl (run_bT (run_gtr rfl rfl) (by omega)) ?_
    refine WL.nil ?_
    repeat (first | refine CW.seq ?_ | refine CW.block ?_ | refine CW.skip ?_ | refine CW.exit ?_ | refine CW.condT rfl ?_ | refine CW.condF rfl ?_)
    refine CW.reg ?_
    refine WL.val rfl (run_assign) ?_
    refine WL.nil ?_
    repeat (first | refine CW.seq ?_ | refine CW.block ?_ | refine CW.skip ?_ | refine CW.exit ?_ | refine CW.condT rfl ?_ | refine CW.condF rfl ?_)
    refine CW.ret ?_
    refine fin_ret1 rfl ?_
    exact ⟨rfl, hs.clear⟩
  · refine calls (n := 81) Try.func10 rfl rfl rfl ?_
    repeat (first | refine CW.seq ?_ | refine CW.block ?_ | refine CW.skip ?_ | refine CW.exit ?_ | refine CW.condT rfl ?_ | refine CW.condF rfl ?_)
    refine CW.reg ?_
    refine WL.box (cs := x.cells) rfl rfl rfl hs (fun b4 w hs => ?_)
    refine WL.val rfl (run_assign) ?_
    refine WL.nil ?_
    repeat (first | refine CW.seq ?_ | refine CW.block ?_ | refine CW.skip ?_ | refine CW.exit ?_ | refine CW.condT rfl ?_ | refine CW.condF rfl ?_)
    refine CW.reg ?_
    refine WL.enter rfl (run_call en11 rfl rfl) (known_spec _) ?_
    rintro e w ⟨rfl, hq⟩
    refine ⟨_, rfl, ?_⟩
    replace hs := hs.callE hq
    first | refine WL.val rfl (run_notB rfl) ?_ | refine WL.val rfl (run_not rfl) ?_
    refine WL.nil ?_
    repeat (first | refine CW.seq ?_ | refine CW.block ?_ | refine CW.skip ?_ | refine CW.exit ?_ | refine CW.condT rfl ?_ | refine CW.condF rfl ?_)
    refine CW.reg ?_
    refine WL.val rfl (run_move) ?_
    refine WL.val rfl (run_lenSl Try.underlying22 rfl) ?_
    refine WL.val rfl (run_bF (run_gtr rfl rfl) (by omega)) ?_
    refine WL.nil ?_
    repeat (first | refine CW.seq ?_ | refine CW.block ?_ | refine CW.skip ?_ | refine CW.exit ?_ | refine CW.condT rfl ?_ | refine CW.condF rfl ?_)
    refine CW.reg ?_
    refine WL.val rfl (run_move) ?_
    refine WL.enter rfl (run_call en12 rfl rfl) (lend_spec _ (hl.step0 hs.clear) (by omega)) ?_
    rintro e w ⟨b18, rfl, hq⟩
    refine ⟨_, rfl, ?_⟩
    replace hs := hs.call0 hq
    refine WL.val rfl (run_assign) ?_
    refine WL.nil ?_
    replace hs : Step [] [(b18, LendB b18 l), (b4, blk 48 x.cells)] w0 w := hs
    repeat (first | refine CW.seq ?_ | refine CW.block ?_ | refine CW.skip ?_ | refine CW.exit ?_ | refine CW.condT rfl ?_ | refine CW.condF rfl ?_)
    refine CW.reg ?_
    refine WL.val rfl (run_move) ?_
    refine WL.val rfl (run_loadN ty48 rfl hxl hs.a1) ?_
    refine WL.enter rfl (run_call en28 rfl rfl) (withE_spec (l := l) (x := x) _ (lent_es hs ho hb) (by omega) hx) ?_
    rintro e w ⟨i1, u, Lu, rfl, hi1, hp1, hu, hq⟩
    refine ⟨_, rfl, ?_⟩
    replace hs := (hs.call0 hq).append_comm
    refine WL.val rfl (run_assign) ?_
    refine WL.nil ?_
    have hk1 : (withP l x i1).length ≤ 5000 := by
      unfold withP
      split
      · rw [List.length_set]; omega
      · simp [ins]; omega
    replace hs : Step [] ((b18, LendB b18 l) :: (b4, blk 48 x.cells) :: Lu) w0 w := hs
    repeat (first | refine CW.seq ?_ | refine CW.block ?_ | refine CW.skip ?_ | refine CW.exit ?_ | refine CW.condT rfl ?_ | refine CW.condF rfl ?_)
    refine CW.reg ?_
    refine WL.val rfl (run_move) ?_
    refine WL.val rfl (run_move) ?_
    refine WL.enter rfl (run_call en24 rfl rfl) (lessE_spec (l := l) (n := n) _ (lent_es hs ho hb) (by omega)) ?_
    rintro e w ⟨i2, u2, Lu2, rfl, hi2, hp2, hu2, hq⟩
    refine ⟨_, rfl, ?_⟩
    replace hs := (hs.call0 hq).append_comm
    refine WL.val rfl (run_assign) ?_
    refine WL.nil ?_
    have hk2 : (lessP l n i2).length ≤ 5000 := by
      unfold lessP
      split
      · simp [del]; omega
      · omega
    replace hs : Step [] ((b18, LendB b18 l) :: (b4, blk 48 x.cells) :: (Lu ++ Lu2)) w0 w := hs
    generalize (withP l x i1).length = k1 at *
    generalize (lessP l n i2).length = k2 at *
    generalize rows (withP l x i1) = cs1 at *
    generalize rows (lessP l n i2) = cs2 at *
    repeat (first | refine CW.seq ?_ | refine CW.block ?_ | refine CW.skip ?_ | refine CW.exit ?_ | refine CW.condT rfl ?_ | refine CW.condF rfl ?_)
    refine CW.reg ?_
    refine WL.val rfl (run_move) ?_
    refine WL.val rfl (run_move) ?_
    refine WL.enter rfl (run_call en26 rfl rfl) (findE_spec (l := l) (n := n) _ (lent_es hs ho hb) (by omega)) ?_
    rintro e w ⟨i3, rfl, hi3, hp3, hq⟩
    refine ⟨_, rfl, ?_⟩
    replace hs := hs.callE hq
    refine WL.nil ?_
    repeat (first | refine CW.seq ?_ | refine CW.block ?_ | refine CW.skip ?_ | refine CW.exit ?_ | refine CW.condT rfl ?_ | refine CW.condF rfl ?_)
    refine CW.reg ?_
    refine WL.val rfl (run_assign) ?_
    refine WL.nil ?_
    have hs0 : Step [] (Lu ++ ((b18, LendB b18 l) :: (b4, blk 48 x.cells) :: Lu2)) w0 w := hs.perm (by
      refine List.Perm.trans ?_ List.perm_middle.symm
      refine List.Perm.cons _ ?_
      exact List.perm_middle.symm)
    repeat (first | refine CW.seq ?_ | refine CW.block ?_ | refine CW.skip ?_ | refine CW.exit ?_ | refine CW.condT rfl ?_ | refine CW.condF rfl ?_)
    refine CW.loop (fun m f w' => ∃ i cs Lu, i ≤ k1 ∧ m = k1 - i ∧ OwnSl 48 34 u k1 cs Lu ∧ Step [] (Lu ++ ((b18, LendB b18 l) :: (b4, blk 48 x.cells) :: Lu2)) w0 w' ∧ Holds f [(0, .slice va l.length vc), (7, .slice (some ⟨b18, 0, none⟩) l.length (l.length + 67)), (8, u), (9, u2), (10, .int .i64 i)]) (m := k1) ?_ ?_
    · exact ⟨0, _, _, by omega, by omega, hu, hs0, rfl, rfl, rfl, rfl, rfl, trivial⟩
    · clear hs hs0 hu
      rintro m f w ⟨i, cs, Lu, hi, rfl, hu, hs, hf⟩
      have hobt := hf.chain
      obtain ⟨g, rfl⟩ := hobt
      have hobt := hu.form
      obtain ⟨ua, uc, rfl⟩ := hobt
      repeat (first | refine CW.seq ?_ | refine CW.block ?_ | refine CW.skip ?_ | refine CW.exit ?_ | refine CW.condT rfl ?_ | refine CW.condF rfl ?_)
      refine CW.reg ?_
      refine WL.val rfl (run_move) ?_
      refine WL.val rfl (run_move) ?_
      refine WL.val rfl (run_lenSl Try.underlying22 rfl) ?_
      refine WL.val rfl (run_lss rfl rfl) ?_
      refine WL.nil ?_
      repeat (first | refine CW.seq ?_ | refine CW.block ?_ | refine CW.skip ?_ | refine CW.exit ?_)
      first | refine CW.condP rfl (fun h => ?_) (fun h => ?_) | refine CW.cond rfl (fun h => ?_) (fun h => ?_)
      · have hlt : i < k1 := by omega
        have hsm := hu.some1 (by omega)
        obtain ⟨b, cap, more, hq1, hqL, hcap⟩ := hsm
        cases hq1
        subst hqL
        have hcsl := hu.1
        have hcapl : (cs ++ more).length = uc * 34 := hcap
        have hkc : k1 ≤ uc := by
          rw [List.length_append, hcsl] at hcapl
          omega
        have hc34 : 0 + i * 34 + 34 ≤ (cs ++ more).length := by rw [hcapl]; omega
        replace hs : Step [] ((b, blk 48 (cs ++ more)) :: ((b18, LendB b18 l) :: (b4, blk 48 x.cells) :: Lu2)) w0 w := hs
        repeat (first | refine CW.seq ?_ | refine CW.block ?_ | refine CW.skip ?_ | refine CW.exit ?_ | refine CW.condT rfl ?_ | refine CW.condF rfl ?_)
        refine CW.reg ?_
        refine WL.val rfl (run_move) ?_
        refine WL.val rfl (run_move) ?_
        refine WL.val rfl (run_build rfl (bld_ent _ _ _)) ?_
        first | refine WL.val rfl (run_ixSlN Try.underlying22 ty48 rfl rfl (by omega)) ?_ | refine WL.val rfl (run_ixSl Try.underlying22 ty48 rfl rfl (by omega)) ?_
        refine WL.storeN ty48 rfl rfl ((rfl)) (Ent.cells1 _) (hs) (by first | (simp; done) | omega | (simp only [List.length_append, List.length_replicate, List.length_cons, List.length_nil, List.length_set]; omega) | (simp [Ent.cells, u8s]; done) | exact Nat.le_of_ble_eq_true rfl) (fun w hs => ?_)
        refine WL.nil ?_
        have hbl := length_splice (cs := cs ++ more) (off := 0 + i * 34) (vs := (Ent.cells ⟨[109, 111, 114, 101], 5, List.replicate 32 0⟩)) hc34
        repeat (first | refine CW.seq ?_ | refine CW.block ?_ | refine CW.skip ?_ | refine CW.exit ?_ | refine CW.condT rfl ?_ | refine CW.condF rfl ?_)
        refine CW.reg ?_
        refine WL.val rfl (run_move) ?_
        refine WL.val rfl (run_add (c := ((i + 1 : Nat) : Int)) rfl rfl (by omega) (by omega)) ?_
        refine WL.val rfl (run_assign) ?_
        refine WL.nil ?_
        repeat (first | refine CW.seq ?_ | refine CW.block ?_ | refine CW.skip ?_ | refine CW.exit ?_)
        refine (show _ ∧ _ from ⟨rfl, _, ?_, i + 1, _, _, by omega, rfl, OwnSl.of_blk (hbl.trans hcapl) hkc, hs, rfl, rfl, rfl, rfl, rfl, trivial⟩)
        omega
      · repeat (first | refine CW.seq ?_ | refine CW.block ?_ | refine CW.skip ?_ | refine CW.exit ?_ | refine CW.condT rfl ?_ | refine CW.condF rfl ?_)
        refine CW.reg ?_
        refine WL.val rfl (run_assign) ?_
        refine WL.nil ?_
        have hs0 : Step [] (Lu2 ++ ((b18, LendB b18 l) :: (b4, blk 48 x.cells) :: Lu)) w0 w := hs.ends
        repeat (first | refine CW.seq ?_ | refine CW.block ?_ | refine CW.skip ?_ | refine CW.exit ?_ | refine CW.condT rfl ?_ | refine CW.condF rfl ?_)
        refine CW.loop (fun m f w' => ∃ i cs2 Lu2, i ≤ k2 ∧ m = k2 - i ∧ OwnSl 48 34 u2 k2 cs2 Lu2 ∧ Step [] (Lu2 ++ ((b18, LendB b18 l) :: (b4, blk 48 x.cells) :: Lu)) w0 w' ∧ Holds f [(0, .slice va l.length vc), (7, .slice (some ⟨b18, 0, none⟩) l.length (l.length + 67)), (8, .slice ua k1 uc), (9, u2), (11, .int .i64 i)]) (m := k2) ?_ ?_
        · exact ⟨0, _, _, by omega, by omega, hu2, hs0, rfl, rfl, rfl, rfl, rfl, trivial⟩
        · clear hs hs0 hu2
          rintro m f w ⟨i, cs2, Lu2, hi, rfl, hu2, hs, hf⟩
          have hobt := hf.chain
          obtain ⟨g, rfl⟩ := hobt
          have hobt := hu2.form
          obtain ⟨ua2, uc2, rfl⟩ := hobt
          repeat (first | refine CW.seq ?_ | refine CW.block ?_ | refine CW.skip ?_ | refine CW.exit ?_ | refine CW.condT rfl ?_ | refine CW.condF rfl ?_)
          refine CW.reg ?_
          refine WL.val rfl (run_move) ?_
          refine WL.val rfl (run_move) ?_
          refine WL.val rfl (run_lenSl Try.underlying22 rfl) ?_
          refine WL.val rfl (run_lss rfl rfl) ?_
          refine WL.nil ?_
          repeat (first | refine CW.seq ?_ | refine CW.block ?_ | refine CW.skip ?_ | refine CW.exit ?_)
          first | refine CW.condP rfl (fun h => ?_) (fun h => ?_) | refine CW.cond rfl (fun h => ?_) (fun h => ?_)
          · have hlt : i < k2 := by omega
            have hsm := hu2.some1 (by omega)
            obtain ⟨b, cap, more, hq1, hqL, hcap⟩ := hsm
            cases hq1
            subst hqL
            have hcsl := hu2.1
            have hcapl : (cs2 ++ more).length = uc2 * 34 := hcap
            have hkc : k2 ≤ uc2 := by
              rw [List.length_append, hcsl] at hcapl
              omega
            have hc34 : 0 + i * 34 + 34 ≤ (cs2 ++ more).length := by rw [hcapl]; omega
            replace hs : Step [] ((b, blk 48 (cs2 ++ more)) :: ((b18, LendB b18 l) :: (b4, blk 48 x.cells) :: Lu)) w0 w := hs
            repeat (first | refine CW.seq ?_ | refine CW.block ?_ | refine CW.skip ?_ | refine CW.exit ?_ | refine CW.condT rfl ?_ | refine CW.condF rfl ?_)
            refine CW.reg ?_
            refine WL.val rfl (run_move) ?_
            refine WL.val rfl (run_move) ?_
            refine WL.val rfl (run_build rfl (bld_ent _ _ _)) ?_
            first | refine WL.val rfl (run_ixSlN Try.underlying22 ty48 rfl rfl (by omega)) ?_ | refine WL.val rfl (run_ixSl Try.underlying22 ty48 rfl rfl (by omega)) ?_
            refine WL.storeN ty48 rfl rfl ((rfl)) (Ent.cells1 _) (hs) (by first | (simp; done) | omega | (simp only [List.length_append, List.length_replicate, List.length_cons, List.length_nil, List.length_set]; omega) | (simp [Ent.cells, u8s]; done) | exact Nat.le_of_ble_eq_true rfl) (fun w hs => ?_)
            refine WL.nil ?_
            have hbl := length_splice (cs := cs2 ++ more) (off := 0 + i * 34) (vs := (Ent.cells ⟨[108, 101, 115, 115], 6, List.replicate 32 0⟩)) hc34
            repeat (first | refine CW.seq ?_ | refine CW.block ?_ | refine CW.skip ?_ | refine CW.exit ?_ | refine CW.condT rfl ?_ | refine CW.condF rfl ?_)
            refine CW.reg ?_
            refine WL.val rfl (run_move) ?_
            refine WL.val rfl (run_add (c := ((i + 1 : Nat) : Int)) rfl rfl (by omega) (by omega)) ?_
            refine WL.val rfl (run_assign) ?_
            refine WL.nil ?_
            repeat (first | refine CW.seq ?_ | refine CW.block ?_ | refine CW.skip ?_ | refine CW.exit ?_)
            refine (show _ ∧ _ from ⟨rfl, _, ?_, i + 1, _, _, by omega, rfl, OwnSl.of_blk (hbl.trans hcapl) hkc, hs, rfl, rfl, rfl, rfl, rfl, trivial⟩)
            omega
          · have hs1 : Step [] (Lu ++ ((b18, LendB b18 l) :: (b4, blk 48 x.cells) :: Lu2)) w0 w := hs.ends
            have hs := hs1
            repeat (first | refine CW.seq ?_ | refine CW.block ?_ | refine CW.skip ?_ | refine CW.exit ?_ | refine CW.condT rfl ?_ | refine CW.condF rfl ?_)
            refine CW.reg ?_
            refine WL.val rfl (run_move) ?_
            refine WL.val rfl (run_build rfl (bld_kE 8 _)) ?_
            refine WL.val rfl (run_build rfl (bld_kE 8 _)) ?_
            refine WL.buildSlice (cs := ((kE 8).cells ++ (kE 8).cells)) Try.underlying22 ty48 rfl (by decide) rfl (filledP2 rfl rfl rfl) rfl hs (fun b51 w hs => ?_)
            have hsl : Sl w 34 (.slice (some ⟨b51, 0, none⟩) 2 2) 2 ((kE 8).cells ++ (kE 8).cells) := .own1 hs rfl
            refine WL.append Try.underlying22 Try.underlying22 ty48 rfl (by decide) rfl rfl (hu) ((by have := hs.rot1; rw [List.append_assoc] at this; exact this)) (hsl) ((Ent.cells1 _).append (Ent.cells1 _)) (by first | omega | (simp only [List.length_append, List.length_cons, List.length_nil]; omega)) rfl (fun v52 Lv52 w hv52 hs => ?_)
            refine WL.val rfl (run_assign) ?_
            refine WL.nil ?_
            have hs2 : Step [] (Lu2 ++ ((b18, LendB b18 l) :: (b4, blk 48 x.cells) :: Lv52)) w0 w := Step.ends (by rw [← List.append_assoc] at hs; exact Step.dropR hs)
            have hs := hs2
            repeat (first | refine CW.seq ?_ | refine CW.block ?_ | refine CW.skip ?_ | refine CW.exit ?_ | refine CW.condT rfl ?_ | refine CW.condF rfl ?_)
            refine CW.reg ?_
            refine WL.val rfl (run_move) ?_
            refine WL.val rfl (run_build rfl (bld_kE 9 _)) ?_
            refine WL.val rfl (run_build rfl (bld_kE 9 _)) ?_
            refine WL.buildSlice (cs := ((kE 9).cells ++ (kE 9).cells)) Try.underlying22 ty48 rfl (by decide) rfl (filledP2 rfl rfl rfl) rfl hs (fun b56 w hs => ?_)
            have hsl : Sl w 34 (.slice (some ⟨b56, 0, none⟩) 2 2) 2 ((kE 9).cells ++ (kE 9).cells) := .own1 hs rfl
            refine WL.append Try.underlying22 Try.underlying22 ty48 rfl (by decide) rfl rfl (hu2) ((by have := hs.rot1; rw [List.append_assoc] at this; exact this)) (hsl) ((Ent.cells1 _).append (Ent.cells1 _)) (by first | omega | (simp only [List.length_append, List.length_cons, List.length_nil]; omega)) rfl (fun v57 Lv57 w hv57 hs => ?_)
            refine WL.val rfl (run_assign) ?_
            refine WL.nil ?_
            have hs3 : Step [] (Lv57 ++ ((b18, LendB b18 l) :: (b4, blk 48 x.cells) :: Lv52)) w0 w := by rw [← List.append_assoc] at hs; exact Step.dropR hs
            have hs := hs3
            have hs4 : Step [] ((b18, LendB b18 l) :: (Lv57 ++ ((b4, blk 48 x.cells) :: Lv52))) w0 w := Step.front Lv57 hs
            have hs := hs4
            repeat (first | refine CW.seq ?_ | refine CW.block ?_ | refine CW.skip ?_ | refine CW.exit ?_ | refine CW.condT rfl ?_ | refine CW.condF rfl ?_)
            refine CW.reg ?_
            refine WL.val rfl (run_move) ?_
            refine WL.val rfl (run_move) ?_
            refine WL.enter rfl (run_call en15 rfl rfl) (kept_spec _ (hl.step0 hs.clear) (by omega) (Step.hd hs)) ?_
            rintro e w ⟨rfl, hq⟩
            refine ⟨_, rfl, ?_⟩
            have hs5 : Step [] (Lv57 ++ ((b4, blk 48 x.cells) :: Lv52)) w0 w := Step.call (L1 := [_]) (L' := []) hs hq
            have h52 := last_kind hv52 (Step.tail (Step.append_comm hs5))
            have h57 := last_kind hv57 hs5
            obtain ⟨b8, c8, hq8, hcell8⟩ := h52
            obtain ⟨b9, c9, hq9, hcell9⟩ := h57
            subst hq8
            subst hq9
            refine WL.val rfl (run_move) ?_
            refine WL.yes rfl rfl rfl ?_
            refine WL.val rfl (run_move) ?_
            refine WL.yes rfl rfl rfl ?_
            refine WL.val rfl (run_move) ?_
            refine WL.yes rfl rfl rfl ?_
            refine WL.val rfl (run_lenSl Try.underlying22 rfl) ?_
            refine WL.yes rfl rfl rfl ?_
            refine WL.val rfl (run_sub (c := ((k1 + 1 : Nat) : Int)) rfl rfl (by omega) (by omega)) ?_
            refine WL.yes rfl rfl rfl ?_
            first | refine WL.val rfl (run_ixSlN Try.underlying22 ty48 rfl rfl (by omega)) ?_ | refine WL.val rfl (run_ixSl Try.underlying22 ty48 rfl rfl (by omega)) ?_
            refine WL.yes rfl rfl rfl ?_
            refine WL.val rfl (run_field (o' := 1) Try.underlying48 rfl ty3 rfl rfl rfl) ?_
            refine WL.yes rfl rfl rfl ?_
            refine WL.val rfl (run_load1 ty3 rfl (hcell8)) ?_
            refine WL.yes rfl rfl rfl ?_
            refine WL.val rfl (run_bT (run_eql rfl rfl) (by rfl)) ?_
            first | refine WL.val rfl (run_pickT rfl) ?_ | refine WL.val rfl (run_pickF rfl) ?_
            refine WL.val rfl (run_move) ?_
            refine WL.yes rfl rfl rfl ?_
            refine WL.val rfl (run_move) ?_
            refine WL.yes rfl rfl rfl ?_
            refine WL.val rfl (run_move) ?_
            refine WL.yes rfl rfl rfl ?_
            refine WL.val rfl (run_lenSl Try.underlying22 rfl) ?_
            refine WL.yes rfl rfl rfl ?_
            refine WL.val rfl (run_sub (c := ((k2 + 1 : Nat) : Int)) rfl rfl (by omega) (by omega)) ?_
            refine WL.yes rfl rfl rfl ?_
            first | refine WL.val rfl (run_ixSlN Try.underlying22 ty48 rfl rfl (by omega)) ?_ | refine WL.val rfl (run_ixSl Try.underlying22 ty48 rfl rfl (by omega)) ?_
            refine WL.yes rfl rfl rfl ?_
            refine WL.val rfl (run_field (o' := 1) Try.underlying48 rfl ty3 rfl rfl rfl) ?_
            refine WL.yes rfl rfl rfl ?_
            refine WL.val rfl (run_load1 ty3 rfl (hcell9)) ?_
            refine WL.yes rfl rfl rfl ?_
            refine WL.val rfl (run_bT (run_eql rfl rfl) (by rfl)) ?_
            first | refine WL.val rfl (run_pickT rfl) ?_ | refine WL.val rfl (run_pickF rfl) ?_
            refine WL.val rfl (run_assign) ?_
            refine WL.nil ?_
            repeat (first | refine CW.seq ?_ | refine CW.block ?_ | refine CW.skip ?_ | refine CW.exit ?_ | refine CW.condT rfl ?_ | refine CW.condF rfl ?_)
            refine CW.ret ?_
            refine fin_ret1 rfl ?_
            exact ⟨rfl, hs5.clear⟩
end Go.Gx
