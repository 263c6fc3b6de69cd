/- The law's parts, dirs: walked. The law's below: walked. FlowAbroad, plain: what a Copy of a root comes to, and a second one with room. No program in sight. FlowAbroad, plain: what stands in a directory that was met stands there as it is named. No program in sight. -/
import Derived.Test.YtplmnkogkfhaiaaGreatT10
import Derived.Test.YtplmnkogkfhaiaaGreatT2
set_option linter.unusedVariables false
set_option linter.unusedSimpArgs false
set_option maxRecDepth 100000
namespace Go.Gx
open Go.Proofs
attribute [local irreducible] shaL cutD frontL decL decE
def partsX (s : AS) (d : List UInt8) : List (List UInt8) := (decL (s.raw d)).map (·.dig)
theorem raw_lenX {s : AS} (ok : s.Ok) (d : List UInt8) : (s.raw d).length ≤ 67108864 := by
  unfold AS.raw
  cases hx : findX d s.X with
  | none => exact Nat.zero_le _
  | some b =>
    have h1 := used_mem (findX_some hx).1
    have h2 := ok.used
    have h3 := ok.cap
    simp only
    omega
section
variable {bp : Nat} {s : AS} {D L : List (Nat × Obj)} {d : List UInt8} {w0 : World}
set_option maxHeartbeats 4000000 in
theorem parts8_spec (hR : PRep bp s D L) (ok : s.Ok) (hw : Lives (L ++ D) w0) (hd : d.length = 32) :
    Calls Tryz.prog 51 #[.pointer (some ⟨bp, 0, none⟩), .agg (u8s d).toArray] w0 fun e w' => ∃ u Lu, e = .returned u ∧ OwnSl 44 32 u (partsX s d).length (digsL (partsX s d)) Lu ∧ (∀ x ∈ partsX s d, x.length = 32) ∧ (partsX s d).length ≤ 1024 ∧ Step [] Lu w0 w' := by
  have hs : Step [] [] w0 w0 := Step.refl w0
  have hdl : (u8s d).length = 32 := by rw [u8s, List.length_map, hd]
  have hrl := raw_lenX ok d
  refine calls (n := 37) Tryz.func51 rfl rfl rfl ?_
  repeat (first | refine CW.seq ?_ | refine CW.block ?_ | refine CW.skip ?_ | refine CW.label ?_ | refine CW.exit ?_ | refine CW.condT rfl ?_ | refine CW.condF rfl ?_)
  refine CW.reg ?_
  refine WL.box (cs := u8s d) rfl rfl rfl hs (fun b3 w hs => ?_)
  refine WL.val rfl (run_assign) ?_
  refine WL.nil ?_
  repeat (first | refine CW.seq ?_ | refine CW.block ?_ | refine CW.skip ?_ | refine CW.label ?_ | refine CW.exit ?_ | refine CW.condT rfl ?_ | refine CW.condF rfl ?_)
  refine CW.reg ?_
  refine WL.val rfl (run_move) ?_
  refine WL.val rfl (run_loadN ty44 rfl hdl hs.a0) ?_
  refine WL.enter rfl (run_call en102 rfl rfl) (raw_abs hR ok (hw.after hs.clear) hd) ?_
  rintro e w ⟨vb, Lb, rfl, hvb, hq⟩
  refine ⟨_, rfl, ?_⟩
  replace hs := Step.call0 hs hq
  refine WL.val rfl (run_move) ?_
  refine WL.val rfl (run_extract rfl rfl) ?_
  refine WL.val rfl (run_extract rfl rfl) ?_
  refine WL.val rfl (run_assign) ?_
  refine WL.val rfl (run_assign) ?_
  refine WL.nil ?_
  repeat (first | refine CW.seq ?_ | refine CW.block ?_ | refine CW.skip ?_ | refine CW.label ?_ | refine CW.exit ?_ | refine CW.condT rfl ?_ | refine CW.condF rfl ?_)
  refine CW.reg ?_
  refine WL.val rfl (run_move) ?_
  refine WL.enter rfl (run_call en103 rfl rfl) (decodeR_at _ (hvb.sl hs) (hvb.roomW (by decide)) (by omega)) ?_
  rintro e w ⟨u, Le, rfl, hu, hoks, hle, hq⟩
  refine ⟨_, rfl, ?_⟩
  replace hs := Step.call0 hs hq
  refine WL.val rfl (run_move) ?_
  refine WL.val rfl (run_extract rfl rfl) ?_
  refine WL.val rfl (run_extract rfl rfl) ?_
  refine WL.val rfl (run_assign) ?_
  refine WL.val rfl (run_assign) ?_
  refine WL.nil ?_
  have ob : ∃ l, decL (s.raw d) = l := ⟨_, rfl⟩
  obtain ⟨l, hll⟩ := ob
  have hpm : partsX s d = l.map (·.dig) := by rw [partsX, hll]
  rw [hll] at hu hoks hle
  have ob := hu.form
  obtain ⟨ua, uc, rfl⟩ := ob
  repeat (first | refine CW.seq ?_ | refine CW.block ?_ | refine CW.skip ?_ | refine CW.label ?_ | refine CW.exit ?_ | refine CW.condT rfl ?_ | refine CW.condF rfl ?_)
  refine CW.reg ?_
  refine WL.val rfl (run_assign) ?_
  refine WL.nil ?_
  repeat (first | refine CW.seq ?_ | refine CW.block ?_ | refine CW.skip ?_ | refine CW.label ?_ | refine CW.exit ?_ | refine CW.condT rfl ?_ | refine CW.condF rfl ?_)
  refine CW.reg ?_
  refine WL.val rfl (run_assign) ?_
  refine WL.nil ?_
  repeat (first | refine CW.seq ?_ | refine CW.block ?_ | refine CW.skip ?_ | refine CW.label ?_ | refine CW.exit ?_ | refine CW.condT rfl ?_ | refine CW.condF rfl ?_)
  refine CW.loop (fun z f w' => ∃ i vp LP, i ≤ l.length ∧ z = l.length - i ∧ OwnSl 44 32 vp i (digsL ((l.take i).map (·.dig))) LP ∧ Step [] (LP ++ (Le ++ (Lb ++ [(b3, blk 44 (u8s d))]))) w0 w' ∧ Holds f [(7, .slice ua l.length uc), (9, vp), (10, .int .i64 (i : Nat))]) (m := l.length) ?_ ?_
  · exact ⟨0, _, [], Nat.zero_le _, rfl, OwnSl.nil _ _, hs, rfl, rfl, rfl, trivial⟩
  clear hs
  rintro z f w ⟨i, vp, LP, hil, rfl, hvp, hs, hf⟩
  have ob := hf.chain
  obtain ⟨g, rfl⟩ := ob
  by_cases hlt : i < l.length
  · have ob := hu.some1 (by omega)
    obtain ⟨bu, cu, more, hu1, hu2, hu3⟩ := ob
    cases hu1
    subst hu2
    have ob : ∃ e, l[i] = e := ⟨_, rfl⟩
    obtain ⟨e, he⟩ := ob
    have heo := hoks e (he ▸ List.getElem_mem hlt)
    have hel : (u8s e.dig).length = 32 := by rw [u8s, List.length_map, heo.1]
    have hent : At w bu (0 + i * 34) e.cells := by
      have h2 := (At.of_blk (hs.has (bu, blk 115 (rows l ++ more)) (by simp))).left.ent hoks hlt
      rw [he] at h2; exact h2
    have hen2 : At w bu (0 + i * 34 + 2) (u8s e.dig) := hent.drop 2
    repeat (first | refine CW.seq ?_ | refine CW.block ?_ | refine CW.skip ?_ | refine CW.label ?_ | refine CW.exit ?_ | refine CW.condT rfl ?_ | refine CW.condF rfl ?_)
    refine CW.reg ?_
    refine WL.val rfl (run_move) ?_
    refine WL.val rfl (run_move) ?_
    refine WL.val rfl (run_lenSl Tryz.underlying116 rfl) ?_
    refine WL.val rfl (run_bT (run_lss rfl rfl) (by omega)) ?_
    refine WL.nil ?_
    repeat (first | refine CW.seq ?_ | refine CW.block ?_ | refine CW.skip ?_ | refine CW.label ?_ | refine CW.exit ?_)
    first | refine CW.condP rfl (fun h => ?_) (fun h => ?_) | refine CW.cond rfl (fun h => ?_) (fun h => ?_)
    · repeat (first | refine CW.seq ?_ | refine CW.block ?_ | refine CW.skip ?_ | refine CW.label ?_ | refine CW.exit ?_ | refine CW.condT rfl ?_ | refine CW.condF rfl ?_)
      refine CW.reg ?_
      refine WL.val rfl (run_move) ?_
      refine WL.val rfl (run_move) ?_
      refine WL.val rfl (run_move) ?_
      first | refine WL.val rfl (run_ixSlN Tryz.underlying116 ty115 rfl rfl (by omega)) ?_ | refine WL.val rfl (run_ixSl Tryz.underlying116 ty115 rfl rfl (by omega)) ?_
      refine WL.val rfl (run_field (o' := 2) Tryz.underlying115 rfl ty44 rfl rfl rfl) ?_
      refine WL.val rfl (run_loadN ty44 rfl hel hen2) ?_
      refine WL.buildSlice (cs := u8s e.dig) Tryz.underlying35 ty44 rfl (by decide) rfl (filled1 hel rfl) rfl hs (fun b34 w hs => ?_)
      have hsl34 : Sl w 32 (.slice (some ⟨b34, 0, none⟩) 1 1) 1 (u8s e.dig) := .own1 hs (by rw [hel])
      replace hs := Step.pIn hs
      refine WL.append Tryz.underlying35 Tryz.underlying35 ty44 rfl (by decide) rfl rfl (hvp) (hs) (hsl34) (Cells1.u8s _) (by first | omega | (simp only [List.length_append, List.length_cons, List.length_nil]; omega)) rfl (fun v35 Lv35 w hv35 hs => ?_)
      replace hs := Step.pOut hs
      refine WL.val rfl (run_assign) ?_
      refine WL.nil ?_
      repeat (first | refine CW.seq ?_ | refine CW.block ?_ | refine CW.skip ?_ | refine CW.label ?_ | refine CW.exit ?_ | refine CW.condT rfl ?_ | refine CW.condF rfl ?_)
      refine CW.reg ?_
      refine WL.val rfl (run_move) ?_
      refine WL.val rfl (run_add (c := ((i + 1 : Nat) : Int)) rfl rfl (by omega) (by omega)) ?_
      refine WL.val rfl (run_assign) ?_
      refine WL.nil ?_
      have hv2 : OwnSl 44 32 v35 (i + 1) (digsL ((l.take (i + 1)).map (·.dig))) Lv35 := by
        rw [List.take_succ_eq_append_getElem hlt, he, List.map_append, List.map_singleton, digsL_snoc]; exact hv35
      repeat (first | refine CW.seq ?_ | refine CW.block ?_ | refine CW.skip ?_ | refine CW.label ?_ | refine CW.exit ?_)
      refine (show _ ∧ _ from ⟨rfl, _, ?_, i + 1, v35, Lv35, hlt, rfl, hv2, hs, rfl, rfl, rfl, trivial⟩)
      omega
    · cases h
  · obtain rfl : i = l.length := by omega
    rw [List.take_length] at hvp
    repeat (first | refine CW.seq ?_ | refine CW.block ?_ | refine CW.skip ?_ | refine CW.label ?_ | refine CW.exit ?_ | refine CW.condT rfl ?_ | refine CW.condF rfl ?_)
    refine CW.reg ?_
    refine WL.val rfl (run_move) ?_
    refine WL.val rfl (run_move) ?_
    refine WL.val rfl (run_lenSl Tryz.underlying116 rfl) ?_
    refine WL.val rfl (run_bF (run_lss rfl rfl) (by omega)) ?_
    refine WL.nil ?_
    repeat (first | refine CW.seq ?_ | refine CW.block ?_ | refine CW.skip ?_ | refine CW.label ?_ | refine CW.exit ?_)
    first | refine CW.condP rfl (fun h => ?_) (fun h => ?_) | refine CW.cond rfl (fun h => ?_) (fun h => ?_)
    · cases h
    repeat (first | refine CW.seq ?_ | refine CW.block ?_ | refine CW.skip ?_ | refine CW.label ?_ | refine CW.exit ?_ | refine CW.condT rfl ?_ | refine CW.condF rfl ?_)
    refine CW.reg ?_
    refine WL.val rfl (run_move) ?_
    refine WL.val rfl (run_assign) ?_
    refine WL.nil ?_
    repeat (first | refine CW.seq ?_ | refine CW.block ?_ | refine CW.skip ?_ | refine CW.label ?_ | refine CW.exit ?_ | refine CW.condT rfl ?_ | refine CW.condF rfl ?_)
    refine CW.ret ?_
    refine fin_ret1 rfl ?_
    refine ⟨_, LP, rfl, by rw [hpm, List.length_map]; exact hvp, fun x hx => ?_, by rw [hpm, List.length_map]; exact hle, Step.dropR (L1 := LP) hs⟩
    rw [hpm] at hx
    have ob := List.mem_map.1 hx
    obtain ⟨y, hy, rfl⟩ := ob
    exact (hoks y hy).1
structure DirsOk (s : AS) (d : List UInt8) (U l : List (List UInt8)) : Prop where
  nodup : l.Nodup
  head : d ∈ l
  sub : ∀ x ∈ l, x ∈ U
  closed : ∀ x ∈ l, ∀ e ∈ decL (s.raw x), e.kind = 2 → e.dig ∈ l
def DirsTo (s : AS) (d : List UInt8) (U : List (List UInt8)) (i : Nat) (l : List (List UInt8)) : Prop := l.Nodup ∧ d ∈ l ∧ (∀ x ∈ l, x ∈ U) ∧ ∀ (j : Nat) (y : List UInt8), j < i → l[j]? = some y → ∀ e ∈ decL (s.raw y), e.kind = 2 → e.dig ∈ l
theorem DirsTo.add {s : AS} {d x : List UInt8} {U l : List (List UInt8)} {i : Nat} (h : DirsTo s d U i l) (hi : i ≤ l.length) (hx : x ∉ l) (hU : x ∈ U) : DirsTo s d U i (l ++ [x]) :=
  ⟨nodup_snoc.2 ⟨h.1, hx⟩, List.mem_append_left _ h.2.1, fun y hy => (List.mem_append.1 hy).elim (h.2.2.1 y) (fun hy => by rw [List.mem_singleton.1 hy]; exact hU), fun j y hj hy e he hk => List.mem_append_left _ (h.2.2.2 j y hj (by rw [List.getElem?_append_left (by omega)] at hy; exact hy) e he hk)⟩
theorem DirsTo.next {s : AS} {d x : List UInt8} {U l : List (List UInt8)} {i : Nat} (h : DirsTo s d U i l) (hx : l[i]? = some x) (hc : ∀ e ∈ decL (s.raw x), e.kind = 2 → e.dig ∈ l) : DirsTo s d U (i + 1) l :=
  ⟨h.1, h.2.1, h.2.2.1, fun j y hj hy e he hk => by
    rcases Nat.lt_or_ge j i with hlt | hge
    · exact h.2.2.2 j y hlt hy e he hk
    · obtain rfl : j = i := by omega
      rw [hx] at hy
      cases hy
      exact hc e he hk⟩
theorem perm_ab1 {α : Type} {A B C G : List α} : (A ++ (B ++ (C ++ G))).Perm (C ++ (A ++ (B ++ G))) := by
  classical exact List.perm_iff_count.2 fun x => by simp only [List.count_append]; omega
set_option maxHeartbeats 8000000 in
theorem dirs8_spec {U : List (List UInt8)} (hR : PRep bp s D L) (ok : s.Ok) (hw : Lives (L ++ D) w0) (hd : d.length = 32) (hU : U.length ≤ 65536) (hdU : d ∈ U) (hcl : ∀ x ∈ U, ∀ e ∈ decL (s.raw x), e.kind = 2 → e.dig ∈ U) (hU32 : ∀ x ∈ U, x.length = 32) :
    Calls Tryz.prog 49 #[.pointer (some ⟨bp, 0, none⟩), .agg (u8s d).toArray] w0 fun e w' => ∃ u Lu l, e = .returned u ∧ OwnSl 44 32 u l.length (digsL l) Lu ∧ DirsOk s d U l ∧ Step [] Lu w0 w' := by
  have hs : Step [] [] w0 w0 := Step.refl w0
  have hdl : (u8s d).length = 32 := by rw [u8s, List.length_map, hd]
  refine calls (n := 65) Tryz.func49 rfl rfl rfl ?_
  repeat (first | refine CW.seq ?_ | refine CW.block ?_ | refine CW.skip ?_ | refine CW.label ?_ | refine CW.exit ?_ | refine CW.condT rfl ?_ | refine CW.condF rfl ?_)
  refine CW.reg ?_
  refine WL.box (cs := u8s d) rfl rfl rfl hs (fun b3 w hs => ?_)
  refine WL.val rfl (run_assign) ?_
  refine WL.nil ?_
  repeat (first | refine CW.seq ?_ | refine CW.block ?_ | refine CW.skip ?_ | refine CW.label ?_ | refine CW.exit ?_ | refine CW.condT rfl ?_ | refine CW.condF rfl ?_)
  refine CW.reg ?_
  refine WL.val rfl (run_loadN ty44 rfl hdl hs.a0) ?_
  refine WL.buildSlice (cs := u8s d) Tryz.underlying35 ty44 rfl (by decide) rfl (filled1 hdl rfl) rfl hs (fun b13 w hs => ?_)
  refine WL.val rfl (run_assign) ?_
  refine WL.nil ?_
  have hv0 : OwnSl 44 32 (.slice (some ⟨b13, 0, none⟩) 1 1) [d].length (digsL [d]) [(b13, blk 44 (u8s d))] := by
    have e : digsL [d] = u8s d := by simp [digsL]
    rw [e]
    exact OwnSl.mk (k := 1) (by rw [hdl])
  replace hs : Step [] ([(b13, blk 44 (u8s d))] ++ [(b3, blk 44 (u8s d))]) w0 w := hs
  have h0 : DirsTo s d U 0 [d] := ⟨by simp, by simp, fun x hx => by rw [List.mem_singleton.1 hx]; exact hdU, fun j y hj => absurd hj (Nat.not_lt_zero _)⟩
  refine CW.seqM (fun f w => ∃ (l : List (List UInt8)) (vl : Value) (Ll G : List (Nat × Obj)), DirsTo s d U l.length l ∧ OwnSl 44 32 vl l.length (digsL l) Ll ∧ Step [] (Ll ++ G) w0 w ∧ Holds f [(5, vl)]) ?_ ?_
  · repeat (first | refine CW.seq ?_ | refine CW.block ?_ | refine CW.skip ?_ | refine CW.label ?_ | refine CW.exit ?_ | refine CW.condT rfl ?_ | refine CW.condF rfl ?_)
    refine CW.reg ?_
    refine WL.val rfl (run_assign) ?_
    refine WL.nil ?_
    repeat (first | refine CW.seq ?_ | refine CW.block ?_ | refine CW.skip ?_ | refine CW.label ?_ | refine CW.exit ?_ | refine CW.condT rfl ?_ | refine CW.condF rfl ?_)
    refine CW.loop (fun zz f w' => ∃ (i : Nat) (l : List (List UInt8)) (vl : Value) (Ll G : List (Nat × Obj)), i ≤ l.length ∧ zz = 65536 - i ∧ DirsTo s d U i l ∧ OwnSl 44 32 vl l.length (digsL l) Ll ∧ Step [] (Ll ++ G) w0 w' ∧ Holds f [(0, .pointer (some ⟨bp, 0, none⟩)), (5, vl), (6, .int .i64 (i : Nat))]) (m := 65536) ?_ ?_
    · exact ⟨0, [d], _, _, _, Nat.zero_le _, rfl, h0, hv0, hs, rfl, rfl, rfl, trivial⟩
    clear hs hv0 h0
    rintro zz f w ⟨i, l, vl, Ll, G, hi, rfl, hT, hvl, hs, hf⟩
    have hll := Nat.le_trans (nodup_len hT.1 hT.2.2.1) hU
    have hlp : 0 < l.length := List.length_pos_of_mem hT.2.1
    have hl32 : ∀ x ∈ l, x.length = 32 := fun x hx => hU32 x (hT.2.2.1 x hx)
    have ob := hvl.some1 hlp
    obtain ⟨bl, cl, ml, rfl, rfl, hml⟩ := ob
    have ob := hf.chain
    obtain ⟨g, rfl⟩ := ob
    by_cases hlt : i < l.length
    · have ob : ∃ x, l[i]? = some x := ⟨_, List.getElem?_eq_getElem hlt⟩
      obtain ⟨x, hx⟩ := ob
      have hxm := List.mem_of_getElem? hx
      have hx32 := hl32 x hxm
      have hxl : (u8s x).length = 32 := by rw [u8s, List.length_map, hx32]
      have hxat : At w bl (0 + i * 32) (u8s x) := digsL_at hl32 (At.of_blk (hs.has (bl, blk 44 (digsL l ++ ml)) (by simp))).left hx
      have hxU := hT.2.2.1 x hxm
      have hrl := raw_lenX ok x
      repeat (first | refine CW.seq ?_ | refine CW.block ?_ | refine CW.skip ?_ | refine CW.label ?_ | refine CW.exit ?_ | refine CW.condT rfl ?_ | refine CW.condF rfl ?_)
      refine CW.reg ?_
      refine WL.val rfl (run_move) ?_
      refine WL.val rfl (run_move) ?_
      refine WL.val rfl (run_lenSl Tryz.underlying35 rfl) ?_
      refine WL.val rfl (run_bT (run_lss rfl rfl) (by omega)) ?_
      refine WL.nil ?_
      repeat (first | refine CW.seq ?_ | refine CW.block ?_ | refine CW.skip ?_ | refine CW.label ?_ | refine CW.exit ?_)
      first | refine CW.condP rfl (fun h => ?_) (fun h => ?_) | refine CW.cond rfl (fun h => ?_) (fun h => ?_)
      · refine CW.skip ?_
        refine CW.seqM (fun f w => ∃ (l : List (List UInt8)) (vl : Value) (Ll G : List (Nat × Obj)), i + 1 ≤ l.length ∧ DirsTo s d U (i + 1) l ∧ OwnSl 44 32 vl l.length (digsL l) Ll ∧ Step [] (Ll ++ G) w0 w ∧ Holds f [(0, .pointer (some ⟨bp, 0, none⟩)), (5, vl), (6, .int .i64 (i : Nat))]) ?_ ?_
        · repeat (first | refine CW.seq ?_ | refine CW.block ?_ | refine CW.skip ?_ | refine CW.label ?_ | refine CW.exit ?_ | refine CW.condT rfl ?_ | refine CW.condF rfl ?_)
          refine CW.reg ?_
          refine WL.val rfl (run_move) ?_
          refine WL.val rfl (run_move) ?_
          refine WL.val rfl (run_move) ?_
          first | refine WL.val rfl (run_ixSlN Tryz.underlying35 ty44 rfl rfl (by omega)) ?_ | refine WL.val rfl (run_ixSl Tryz.underlying35 ty44 rfl rfl (by omega)) ?_
          refine WL.val rfl (run_loadN ty44 rfl hxl hxat) ?_
          refine WL.enter rfl (run_call en102 rfl rfl) (raw_abs hR ok (hw.after hs.clear) hx32) ?_
          rintro e w ⟨vb, Lb, rfl, hvb, hq⟩
          refine ⟨_, rfl, ?_⟩
          replace hs := Step.call0 hs hq
          refine WL.val rfl (run_move) ?_
          refine WL.val rfl (run_extract rfl rfl) ?_
          refine WL.val rfl (run_extract rfl rfl) ?_
          refine WL.val rfl (run_assign) ?_
          refine WL.val rfl (run_assign) ?_
          refine WL.nil ?_
          repeat (first | refine CW.seq ?_ | refine CW.block ?_ | refine CW.skip ?_ | refine CW.label ?_ | refine CW.exit ?_ | refine CW.condT rfl ?_ | refine CW.condF rfl ?_)
          refine CW.reg ?_
          refine WL.val rfl (run_move) ?_
          refine WL.enter rfl (run_call en103 rfl rfl) (decodeR_at _ (hvb.sl hs) (hvb.roomW (by decide)) (by omega)) ?_
          rintro e w ⟨u, Le, rfl, hu, hoks, hle, hq⟩
          refine ⟨_, rfl, ?_⟩
          replace hs := Step.call0 hs hq
          refine WL.val rfl (run_move) ?_
          refine WL.val rfl (run_extract rfl rfl) ?_
          refine WL.val rfl (run_extract rfl rfl) ?_
          refine WL.val rfl (run_assign) ?_
          refine WL.val rfl (run_assign) ?_
          refine WL.nil ?_
          have hclx := hcl x hxU
          have ob : ∃ es, decL (s.raw x) = es := ⟨_, rfl⟩
          obtain ⟨es, hes⟩ := ob
          rw [hes] at hu hoks hle hclx
          have ob := hu.form
          obtain ⟨ua, uc, rfl⟩ := ob
          replace hs := Step.perm hs perm_ab1
          repeat (first | refine CW.seq ?_ | refine CW.block ?_ | refine CW.skip ?_ | refine CW.label ?_ | refine CW.exit ?_ | refine CW.condT rfl ?_ | refine CW.condF rfl ?_)
          refine CW.reg ?_
          refine WL.val rfl (run_assign) ?_
          refine WL.nil ?_
          repeat (first | refine CW.seq ?_ | refine CW.block ?_ | refine CW.skip ?_ | refine CW.label ?_ | refine CW.exit ?_ | refine CW.condT rfl ?_ | refine CW.condF rfl ?_)
          refine CW.loop (fun zz f w' => ∃ (k : Nat) (l : List (List UInt8)) (vl : Value) (Ll G : List (Nat × Obj)), k ≤ es.length ∧ zz = es.length - k ∧ i < l.length ∧ l[i]? = some x ∧ DirsTo s d U i l ∧ (∀ e ∈ es.take k, e.kind = 2 → e.dig ∈ l) ∧ OwnSl 44 32 vl l.length (digsL l) Ll ∧ Step [] (Ll ++ (Le ++ G)) w0 w' ∧ Holds f [(0, .pointer (some ⟨bp, 0, none⟩)), (5, vl), (6, .int .i64 (i : Nat)), (9, .slice ua es.length uc), (11, .int .i64 (k : Nat))]) (m := es.length) ?_ ?_
          · exact ⟨0, l, _, _, _, Nat.zero_le _, rfl, hlt, hx, hT, (fun e he => by simp at he), hvl, hs, rfl, rfl, rfl, rfl, rfl, trivial⟩
          clear hs hvl hT hlt hx hl32 hll hlp hml hxat hxm
          rintro zz f w ⟨k, l, vl, Ll, G, hk, rfl, hlt, hx, hT, htk, hvl, hs, hf⟩
          have hll := Nat.le_trans (nodup_len hT.1 hT.2.2.1) hU
          have hl32 : ∀ x ∈ l, x.length = 32 := fun x hx => hU32 x (hT.2.2.1 x hx)
          have ob := hvl.form
          obtain ⟨va, vc, rfl⟩ := ob
          have ob := hf.chain
          obtain ⟨g, rfl⟩ := ob
          by_cases hkl : k < es.length
          · have ob := hu.some1 (by omega)
            obtain ⟨bu, cu, more, hu1, hu2, hu3⟩ := ob
            cases hu1
            subst hu2
            have ob : ∃ e, es[k] = e := ⟨_, rfl⟩
            obtain ⟨e, he⟩ := ob
            have hem : e ∈ es := he ▸ List.getElem_mem hkl
            have heo := hoks e hem
            have hel : (u8s e.dig).length = 32 := by rw [u8s, List.length_map, heo.1]
            have hent : At w bu (0 + k * 34) e.cells := by
              have h2 := (At.of_blk (hs.has (bu, blk 115 (rows es ++ more)) (by simp))).left.ent hoks hkl
              rw [he] at h2; exact h2
            have hen2 : At w bu (0 + k * 34 + 2) (u8s e.dig) := hent.drop 2
            have htk1 : es.take (k + 1) = es.take k ++ [e] := by rw [List.take_succ_eq_append_getElem hkl, he]
            have hhas := fun {w1 : World} (h : ∀ p ∈ Ll, w1.heap[p.1]? = some p.2) => hasL8_spec (w0 := w1) (Dgs.own hvl h hl32 (by omega)) heo.1
            repeat (first | refine CW.seq ?_ | refine CW.block ?_ | refine CW.skip ?_ | refine CW.label ?_ | refine CW.exit ?_ | refine CW.condT rfl ?_ | refine CW.condF rfl ?_)
            refine CW.reg ?_
            refine WL.val rfl (run_move) ?_
            refine WL.val rfl (run_move) ?_
            refine WL.val rfl (run_lenSl Tryz.underlying116 rfl) ?_
            refine WL.val rfl (run_bT (run_lss rfl rfl) (by omega)) ?_
            refine WL.nil ?_
            repeat (first | refine CW.seq ?_ | refine CW.block ?_ | refine CW.skip ?_ | refine CW.label ?_ | refine CW.exit ?_)
            first | refine CW.condP rfl (fun h => ?_) (fun h => ?_) | refine CW.cond rfl (fun h => ?_) (fun h => ?_)
            · by_cases hkd : e.kind = 2
              · by_cases hm : e.dig ∈ l
                · have hin : e.kind = 2 → e.dig ∈ l := fun _ => hm
                  rw [decide_eq_true hm] at hhas
                  repeat (first | refine CW.seq ?_ | refine CW.block ?_ | refine CW.skip ?_ | refine CW.label ?_ | refine CW.exit ?_ | refine CW.condT rfl ?_ | refine CW.condF rfl ?_)
                  refine CW.reg ?_
                  refine WL.val rfl (run_move) ?_
                  refine WL.val rfl (run_move) ?_
                  first | refine WL.val rfl (run_ixSlN Tryz.underlying116 ty115 rfl rfl (by omega)) ?_ | refine WL.val rfl (run_ixSl Tryz.underlying116 ty115 rfl rfl (by omega)) ?_
                  refine WL.val rfl (run_field (o' := 1) Tryz.underlying115 rfl ty3 rfl rfl rfl) ?_
                  refine WL.val rfl (run_load1 ty3 rfl ((hent.cell (j := 1) rfl))) ?_
                  refine WL.val rfl (run_bT (run_eql rfl rfl) (by exact hkd)) ?_
                  refine WL.val rfl (run_move) ?_
                  first | (refine WL.yes rfl rfl rfl ?_; refine WL.val rfl (run_move) ?_) | refine WL.no rfl rfl rfl (.inl rfl) ?_ | refine WL.no rfl rfl rfl (.inr rfl) ?_
                  first | (refine WL.yes rfl rfl rfl ?_; refine WL.val rfl (run_move) ?_) | refine WL.no rfl rfl rfl (.inl rfl) ?_ | refine WL.no rfl rfl rfl (.inr rfl) ?_
                  first | (refine WL.yes rfl rfl rfl ?_; refine WL.val rfl (run_move) ?_) | refine WL.no rfl rfl rfl (.inl rfl) ?_ | refine WL.no rfl rfl rfl (.inr rfl) ?_
                  first | (refine WL.yes rfl rfl rfl ?_; (first | refine WL.val rfl (run_ixSlN Tryz.underlying116 ty115 rfl rfl (by omega)) ?_ | refine WL.val rfl (run_ixSl Tryz.underlying116 ty115 rfl rfl (by omega)) ?_)) | refine WL.no rfl rfl rfl (.inl rfl) ?_ | refine WL.no rfl rfl rfl (.inr rfl) ?_
                  first | (refine WL.yes rfl rfl rfl ?_; refine WL.val rfl (run_field (o' := 2) Tryz.underlying115 rfl ty44 rfl rfl rfl) ?_) | refine WL.no rfl rfl rfl (.inl rfl) ?_ | refine WL.no rfl rfl rfl (.inr rfl) ?_
                  refine WL.yes rfl rfl rfl ?_
                  refine WL.val rfl (run_loadN ty44 rfl hel hen2) ?_
                  refine WL.yes rfl rfl rfl ?_
                  refine WL.enter rfl (run_call en32 rfl rfl) (hhas (fun p hp => hs.has p (by simp [hp]))) ?_
                  rintro e w ⟨rfl, hq⟩
                  refine ⟨_, rfl, ?_⟩
                  replace hs := hs.callE hq
                  first | (refine WL.yes rfl rfl rfl ?_; (first | refine WL.val rfl (run_notB rfl) ?_ | refine WL.val rfl (run_not rfl) ?_)) | refine WL.no rfl rfl rfl (.inl rfl) ?_ | refine WL.no rfl rfl rfl (.inr rfl) ?_
                  first | refine WL.val rfl (run_pickT rfl) ?_ | refine WL.val rfl (run_pickF rfl) ?_
                  refine WL.nil ?_
                  repeat (first | refine CW.seq ?_ | refine CW.block ?_ | refine CW.skip ?_ | refine CW.label ?_ | refine CW.exit ?_)
                  first | refine CW.condP rfl (fun h => ?_) (fun h => ?_) | refine CW.cond rfl (fun h => ?_) (fun h => ?_)
                  · cases h
                  repeat (first | refine CW.seq ?_ | refine CW.block ?_ | refine CW.skip ?_ | refine CW.label ?_ | refine CW.exit ?_ | refine CW.condT rfl ?_ | refine CW.condF rfl ?_)
                  refine CW.reg ?_
                  refine WL.val rfl (run_move) ?_
                  refine WL.val rfl (run_add (c := ((k + 1 : Nat) : Int)) rfl rfl (by omega) (by omega)) ?_
                  refine WL.val rfl (run_assign) ?_
                  refine WL.nil ?_
                  repeat (first | refine CW.seq ?_ | refine CW.block ?_ | refine CW.skip ?_ | refine CW.label ?_ | refine CW.exit ?_)
                  refine (show _ ∧ _ from ⟨rfl, _, ?_, k + 1, l, _, Ll, _, hkl, rfl, hlt, hx, hT, ?_, hvl, hs, rfl, rfl, rfl, rfl, rfl, trivial⟩)
                  · omega
                  · intro y hy hyk
                    rw [htk1] at hy
                    rcases List.mem_append.1 hy with hy | hy
                    · exact htk y hy hyk
                    · obtain rfl := List.mem_singleton.1 hy
                      exact hin hyk
                · rw [decide_eq_false hm] at hhas
                  repeat (first | refine CW.seq ?_ | refine CW.block ?_ | refine CW.skip ?_ | refine CW.label ?_ | refine CW.exit ?_ | refine CW.condT rfl ?_ | refine CW.condF rfl ?_)
                  refine CW.reg ?_
                  refine WL.val rfl (run_move) ?_
                  refine WL.val rfl (run_move) ?_
                  first | refine WL.val rfl (run_ixSlN Tryz.underlying116 ty115 rfl rfl (by omega)) ?_ | refine WL.val rfl (run_ixSl Tryz.underlying116 ty115 rfl rfl (by omega)) ?_
                  refine WL.val rfl (run_field (o' := 1) Tryz.underlying115 rfl ty3 rfl rfl rfl) ?_
                  refine WL.val rfl (run_load1 ty3 rfl ((hent.cell (j := 1) rfl))) ?_
                  refine WL.val rfl (run_bT (run_eql rfl rfl) (by exact hkd)) ?_
                  refine WL.val rfl (run_move) ?_
                  first | (refine WL.yes rfl rfl rfl ?_; refine WL.val rfl (run_move) ?_) | refine WL.no rfl rfl rfl (.inl rfl) ?_ | refine WL.no rfl rfl rfl (.inr rfl) ?_
                  first | (refine WL.yes rfl rfl rfl ?_; refine WL.val rfl (run_move) ?_) | refine WL.no rfl rfl rfl (.inl rfl) ?_ | refine WL.no rfl rfl rfl (.inr rfl) ?_
                  first | (refine WL.yes rfl rfl rfl ?_; refine WL.val rfl (run_move) ?_) | refine WL.no rfl rfl rfl (.inl rfl) ?_ | refine WL.no rfl rfl rfl (.inr rfl) ?_
                  first | (refine WL.yes rfl rfl rfl ?_; (first | refine WL.val rfl (run_ixSlN Tryz.underlying116 ty115 rfl rfl (by omega)) ?_ | refine WL.val rfl (run_ixSl Tryz.underlying116 ty115 rfl rfl (by omega)) ?_)) | refine WL.no rfl rfl rfl (.inl rfl) ?_ | refine WL.no rfl rfl rfl (.inr rfl) ?_
                  first | (refine WL.yes rfl rfl rfl ?_; refine WL.val rfl (run_field (o' := 2) Tryz.underlying115 rfl ty44 rfl rfl rfl) ?_) | refine WL.no rfl rfl rfl (.inl rfl) ?_ | refine WL.no rfl rfl rfl (.inr rfl) ?_
                  refine WL.yes rfl rfl rfl ?_
                  refine WL.val rfl (run_loadN ty44 rfl hel hen2) ?_
                  refine WL.yes rfl rfl rfl ?_
                  refine WL.enter rfl (run_call en32 rfl rfl) (hhas (fun p hp => hs.has p (by simp [hp]))) ?_
                  rintro e w ⟨rfl, hq⟩
                  refine ⟨_, rfl, ?_⟩
                  replace hs := hs.callE hq
                  first | (refine WL.yes rfl rfl rfl ?_; (first | refine WL.val rfl (run_notB rfl) ?_ | refine WL.val rfl (run_not rfl) ?_)) | refine WL.no rfl rfl rfl (.inl rfl) ?_ | refine WL.no rfl rfl rfl (.inr rfl) ?_
                  first | refine WL.val rfl (run_pickT rfl) ?_ | refine WL.val rfl (run_pickF rfl) ?_
                  refine WL.nil ?_
                  repeat (first | refine CW.seq ?_ | refine CW.block ?_ | refine CW.skip ?_ | refine CW.label ?_ | refine CW.exit ?_)
                  first | refine CW.condP rfl (fun h => ?_) (fun h => ?_) | refine CW.cond rfl (fun h => ?_) (fun h => ?_)
                  · have hen3 : At w bu (0 + k * 34 + 2) (u8s e.dig) := by
                      have h2 := (At.of_blk (hs.has (bu, blk 115 (rows es ++ more)) (by simp))).left.ent hoks hkl
                      rw [he] at h2
                      exact h2.drop 2
                    repeat (first | refine CW.seq ?_ | refine CW.block ?_ | refine CW.skip ?_ | refine CW.label ?_ | refine CW.exit ?_ | refine CW.condT rfl ?_ | refine CW.condF rfl ?_)
                    refine CW.reg ?_
                    refine WL.val rfl (run_move) ?_
                    refine WL.val rfl (run_move) ?_
                    refine WL.val rfl (run_move) ?_
                    first | refine WL.val rfl (run_ixSlN Tryz.underlying116 ty115 rfl rfl (by omega)) ?_ | refine WL.val rfl (run_ixSl Tryz.underlying116 ty115 rfl rfl (by omega)) ?_
                    refine WL.val rfl (run_field (o' := 2) Tryz.underlying115 rfl ty44 rfl rfl rfl) ?_
                    refine WL.val rfl (run_loadN ty44 rfl hel hen3) ?_
                    refine WL.buildSlice (cs := u8s e.dig) Tryz.underlying35 ty44 rfl (by decide) rfl (filled1 hel rfl) rfl hs (fun b62 w hs => ?_)
                    have hsl62 : Sl w 32 (.slice (some ⟨b62, 0, none⟩) 1 1) 1 (u8s e.dig) := .own1 hs (by rw [hel])
                    replace hs := Step.pIn hs
                    refine WL.append Tryz.underlying35 Tryz.underlying35 ty44 rfl (by decide) rfl rfl (hvl) (hs) (hsl62) (Cells1.u8s _) (by first | omega | (simp only [List.length_append, List.length_cons, List.length_nil]; omega)) rfl (fun v63 Lv63 w hv63 hs => ?_)
                    replace hs := Step.pOut hs
                    refine WL.val rfl (run_assign) ?_
                    refine WL.nil ?_
                    have hv2 : OwnSl 44 32 v63 (l ++ [e.dig]).length (digsL (l ++ [e.dig])) Lv63 := by
                      rw [List.length_append, digsL_snoc]; exact hv63
                    repeat (first | refine CW.seq ?_ | refine CW.block ?_ | refine CW.skip ?_ | refine CW.label ?_ | refine CW.exit ?_ | refine CW.condT rfl ?_ | refine CW.condF rfl ?_)
                    refine CW.reg ?_
                    refine WL.val rfl (run_move) ?_
                    refine WL.val rfl (run_add (c := ((k + 1 : Nat) : Int)) rfl rfl (by omega) (by omega)) ?_
                    refine WL.val rfl (run_assign) ?_
                    refine WL.nil ?_
                    repeat (first | refine CW.seq ?_ | refine CW.block ?_ | refine CW.skip ?_ | refine CW.label ?_ | refine CW.exit ?_)
                    refine (show _ ∧ _ from ⟨rfl, _, ?_, k + 1, l ++ [e.dig], _, Lv63, _, hkl, rfl, by rw [List.length_append]; omega, by rw [List.getElem?_append_left hlt]; exact hx, hT.add (by omega) hm (hclx e hem hkd), ?_, hv2, hs, rfl, rfl, rfl, rfl, rfl, trivial⟩)
                    · omega
                    · intro y hy hyk
                      rw [htk1] at hy
                      rcases List.mem_append.1 hy with hy | hy
                      · exact List.mem_append_left _ (htk y hy hyk)
                      · rw [List.mem_singleton.1 hy]; simp
                  · cases h
              · have hin : e.kind = 2 → e.dig ∈ l := fun h => absurd h hkd
                repeat (first | refine CW.seq ?_ | refine CW.block ?_ | refine CW.skip ?_ | refine CW.label ?_ | refine CW.exit ?_ | refine CW.condT rfl ?_ | refine CW.condF rfl ?_)
                refine CW.reg ?_
                refine WL.val rfl (run_move) ?_
                refine WL.val rfl (run_move) ?_
                first | refine WL.val rfl (run_ixSlN Tryz.underlying116 ty115 rfl rfl (by omega)) ?_ | refine WL.val rfl (run_ixSl Tryz.underlying116 ty115 rfl rfl (by omega)) ?_
                refine WL.val rfl (run_field (o' := 1) Tryz.underlying115 rfl ty3 rfl rfl rfl) ?_
                refine WL.val rfl (run_load1 ty3 rfl ((hent.cell (j := 1) rfl))) ?_
                refine WL.val rfl (run_bF (run_eql rfl rfl) (by exact hkd)) ?_
                refine WL.val rfl (run_move) ?_
                first | (refine WL.yes rfl rfl rfl ?_; refine WL.val rfl (run_move) ?_) | refine WL.no rfl rfl rfl (.inl rfl) ?_ | refine WL.no rfl rfl rfl (.inr rfl) ?_
                first | (refine WL.yes rfl rfl rfl ?_; refine WL.val rfl (run_move) ?_) | refine WL.no rfl rfl rfl (.inl rfl) ?_ | refine WL.no rfl rfl rfl (.inr rfl) ?_
                first | (refine WL.yes rfl rfl rfl ?_; refine WL.val rfl (run_move) ?_) | refine WL.no rfl rfl rfl (.inl rfl) ?_ | refine WL.no rfl rfl rfl (.inr rfl) ?_
                first | (refine WL.yes rfl rfl rfl ?_; (first | refine WL.val rfl (run_ixSlN Tryz.underlying116 ty115 rfl rfl (by omega)) ?_ | refine WL.val rfl (run_ixSl Tryz.underlying116 ty115 rfl rfl (by omega)) ?_)) | refine WL.no rfl rfl rfl (.inl rfl) ?_ | refine WL.no rfl rfl rfl (.inr rfl) ?_
                first | (refine WL.yes rfl rfl rfl ?_; refine WL.val rfl (run_field (o' := 2) Tryz.underlying115 rfl ty44 rfl rfl rfl) ?_) | refine WL.no rfl rfl rfl (.inl rfl) ?_ | refine WL.no rfl rfl rfl (.inr rfl) ?_
                first | (refine WL.yes rfl rfl rfl ?_; (first | refine WL.val rfl (run_loadN ty44 rfl (by first | rfl | assumption | (simp; done)) hs.a0) ?_ | refine WL.val rfl (run_loadN ty44 rfl (by first | rfl | assumption | (simp; done)) hs.a1) ?_ | refine WL.val rfl (run_loadN ty44 rfl (by first | rfl | assumption | (simp; done)) hs.a2) ?_ | refine WL.val rfl (run_loadN ty44 rfl (by first | rfl | assumption | (simp; done)) hs.a3) ?_ | refine WL.val rfl (run_loadN ty44 rfl (by first | rfl | assumption | (simp; done)) hs.a4) ?_ | refine WL.val rfl (run_loadN ty44 rfl (by first | rfl | assumption | (simp; done)) hs.a5) ?_ | refine WL.val rfl (run_loadN ty44 rfl (by first | rfl | assumption | (simp; done)) hs.a0) ?_)) | refine WL.no rfl rfl rfl (.inl rfl) ?_ | refine WL.no rfl rfl rfl (.inr rfl) ?_
                first | refine WL.no rfl rfl rfl (.inl rfl) ?_ | refine WL.no rfl rfl rfl (.inr rfl) ?_
                first | (refine WL.yes rfl rfl rfl ?_; (first | refine WL.val rfl (run_notB rfl) ?_ | refine WL.val rfl (run_not rfl) ?_)) | refine WL.no rfl rfl rfl (.inl rfl) ?_ | refine WL.no rfl rfl rfl (.inr rfl) ?_
                first | refine WL.val rfl (run_pickT rfl) ?_ | refine WL.val rfl (run_pickF rfl) ?_
                refine WL.nil ?_
                repeat (first | refine CW.seq ?_ | refine CW.block ?_ | refine CW.skip ?_ | refine CW.label ?_ | refine CW.exit ?_)
                first | refine CW.condP rfl (fun h => ?_) (fun h => ?_) | refine CW.cond rfl (fun h => ?_) (fun h => ?_)
                · cases h
                repeat (first | refine CW.seq ?_ | refine CW.block ?_ | refine CW.skip ?_ | refine CW.label ?_ | refine CW.exit ?_ | refine CW.condT rfl ?_ | refine CW.condF rfl ?_)
                refine CW.reg ?_
                refine WL.val rfl (run_move) ?_
                refine WL.val rfl (run_add (c := ((k + 1 : Nat) : Int)) rfl rfl (by omega) (by omega)) ?_
                refine WL.val rfl (run_assign) ?_
                refine WL.nil ?_
                repeat (first | refine CW.seq ?_ | refine CW.block ?_ | refine CW.skip ?_ | refine CW.label ?_ | refine CW.exit ?_)
                refine (show _ ∧ _ from ⟨rfl, _, ?_, k + 1, l, _, Ll, _, hkl, rfl, hlt, hx, hT, ?_, hvl, hs, rfl, rfl, rfl, rfl, rfl, trivial⟩)
                · omega
                · intro y hy hyk
                  rw [htk1] at hy
                  rcases List.mem_append.1 hy with hy | hy
                  · exact htk y hy hyk
                  · obtain rfl := List.mem_singleton.1 hy
                    exact hin hyk
            · cases h
          · obtain rfl : k = es.length := by omega
            rw [List.take_length] at htk
            repeat (first | refine CW.seq ?_ | refine CW.block ?_ | refine CW.skip ?_ | refine CW.label ?_ | refine CW.exit ?_ | refine CW.condT rfl ?_ | refine CW.condF rfl ?_)
            refine CW.reg ?_
            refine WL.val rfl (run_move) ?_
            refine WL.val rfl (run_move) ?_
            refine WL.val rfl (run_lenSl Tryz.underlying116 rfl) ?_
            refine WL.val rfl (run_bF (run_lss rfl rfl) (by omega)) ?_
            refine WL.nil ?_
            repeat (first | refine CW.seq ?_ | refine CW.block ?_ | refine CW.skip ?_ | refine CW.label ?_ | refine CW.exit ?_)
            first | refine CW.condP rfl (fun h => ?_) (fun h => ?_) | refine CW.cond rfl (fun h => ?_) (fun h => ?_)
            · cases h
            repeat (first | refine CW.seq ?_ | refine CW.block ?_ | refine CW.skip ?_ | refine CW.label ?_ | refine CW.exit ?_ | refine CW.condT rfl ?_ | refine CW.condF rfl ?_)
            exact ⟨rfl, l, _, Ll, _, hlt, hT.next hx (by rw [hes]; exact htk), hvl, hs, rfl, rfl, rfl, trivial⟩
        clear hs hvl hT hlt hx hl32 hll hlp hml hxat hxm
        rintro f w ⟨l, vl, Ll, G, hlt, hT, hvl, hs, hf⟩
        have ob := hf.chain
        obtain ⟨g, rfl⟩ := ob
        have hll := Nat.le_trans (nodup_len hT.1 hT.2.2.1) hU
        repeat (first | refine CW.seq ?_ | refine CW.block ?_ | refine CW.skip ?_ | refine CW.label ?_ | refine CW.exit ?_ | refine CW.condT rfl ?_ | refine CW.condF rfl ?_)
        refine CW.reg ?_
        refine WL.val rfl (run_move) ?_
        refine WL.val rfl (run_add (c := ((i + 1 : Nat) : Int)) rfl rfl (by omega) (by omega)) ?_
        refine WL.val rfl (run_assign) ?_
        refine WL.nil ?_
        repeat (first | refine CW.seq ?_ | refine CW.block ?_ | refine CW.skip ?_ | refine CW.label ?_ | refine CW.exit ?_)
        refine (show _ ∧ _ from ⟨rfl, _, ?_, i + 1, l, vl, Ll, G, hlt, rfl, hT, hvl, hs, rfl, rfl, rfl, trivial⟩)
        omega
      · cases h
    · obtain rfl : i = l.length := by omega
      repeat (first | refine CW.seq ?_ | refine CW.block ?_ | refine CW.skip ?_ | refine CW.label ?_ | refine CW.exit ?_ | refine CW.condT rfl ?_ | refine CW.condF rfl ?_)
      refine CW.reg ?_
      refine WL.val rfl (run_move) ?_
      refine WL.val rfl (run_move) ?_
      refine WL.val rfl (run_lenSl Tryz.underlying35 rfl) ?_
      refine WL.val rfl (run_bF (run_lss rfl rfl) (by omega)) ?_
      refine WL.nil ?_
      repeat (first | refine CW.seq ?_ | refine CW.block ?_ | refine CW.skip ?_ | refine CW.label ?_ | refine CW.exit ?_)
      first | refine CW.condP rfl (fun h => ?_) (fun h => ?_) | refine CW.cond rfl (fun h => ?_) (fun h => ?_)
      · cases h
      repeat (first | refine CW.seq ?_ | refine CW.block ?_ | refine CW.skip ?_ | refine CW.label ?_ | refine CW.exit ?_ | refine CW.condT rfl ?_ | refine CW.condF rfl ?_)
      exact ⟨rfl, l, _, _, G, hT, hvl, hs, rfl, trivial⟩
  clear hs hv0
  rintro f w ⟨l, vl, Ll, G, hT, hvl, hs, hf⟩
  have ob := hf.chain
  obtain ⟨g, rfl⟩ := ob
  repeat (first | refine CW.seq ?_ | refine CW.block ?_ | refine CW.skip ?_ | refine CW.label ?_ | refine CW.exit ?_ | refine CW.condT rfl ?_ | refine CW.condF rfl ?_)
  refine CW.reg ?_
  refine WL.val rfl (run_move) ?_
  refine WL.val rfl (run_assign) ?_
  refine WL.nil ?_
  repeat (first | refine CW.seq ?_ | refine CW.block ?_ | refine CW.skip ?_ | refine CW.label ?_ | refine CW.exit ?_ | refine CW.condT rfl ?_ | refine CW.condF rfl ?_)
  refine CW.ret ?_
  refine fin_ret1 rfl ?_
  refine ⟨_, Ll, l, rfl, hvl, ⟨hT.1, hT.2.1, hT.2.2.1, fun x hx e he hk => ?_⟩, Step.dropR (L1 := Ll) hs⟩
  have ob := List.mem_iff_getElem.1 hx
  obtain ⟨j, hj, hje⟩ := ob
  exact hT.2.2.2 j x hj (by rw [List.getElem?_eq_getElem hj, hje]) e he hk
end
def partsA (s : AS) (A : List (List UInt8)) (x : List UInt8) : List (List UInt8) := if x ∈ A then partsX s x else []
theorem Rch.shut {P : List UInt8 → List (List UInt8)} {C : List (List UInt8)} {p x : List UInt8} (h : Rch P p x) : p ∈ C → (∀ y ∈ C, ∀ z ∈ P y, z ∈ C ∧ z ≠ x) → False := by
  induction h with
  | one h => exact fun hp hC => (hC _ hp _ h).2 rfl
  | step h _ ih => exact fun hp hC => ih (hC _ hp _ h).1 hC
def BelTo (s : AS) (A U : List (List UInt8)) (d x : List UInt8) (i : Nat) (l : List (List UInt8)) : Prop := l.Nodup ∧ d ∈ l ∧ (∀ y ∈ l, y ∈ U) ∧ ∀ (j : Nat) (y : List UInt8), j < i → l[j]? = some y → ∀ z ∈ partsA s A y, z ∈ l ∧ z ≠ x
theorem BelTo.add {s : AS} {d x z : List UInt8} {A U l : List (List UInt8)} {i : Nat} (h : BelTo s A U d x i l) (hi : i ≤ l.length) (hx : z ∉ l) (hU : z ∈ U) : BelTo s A U d x i (l ++ [z]) :=
  ⟨nodup_snoc.2 ⟨h.1, hx⟩, List.mem_append_left _ h.2.1, fun y hy => (List.mem_append.1 hy).elim (h.2.2.1 y) (fun hy => by rw [List.mem_singleton.1 hy]; exact hU), fun j y hj hy e he => ⟨List.mem_append_left _ (h.2.2.2 j y hj (by rw [List.getElem?_append_left (by omega)] at hy; exact hy) e he).1, (h.2.2.2 j y hj (by rw [List.getElem?_append_left (by omega)] at hy; exact hy) e he).2⟩⟩
theorem BelTo.next {s : AS} {d x z : List UInt8} {A U l : List (List UInt8)} {i : Nat} (h : BelTo s A U d x i l) (hz : l[i]? = some z) (hc : ∀ y ∈ partsA s A z, y ∈ l ∧ y ≠ x) : BelTo s A U d x (i + 1) l :=
  ⟨h.1, h.2.1, h.2.2.1, fun j y hj hy e he => by
    rcases Nat.lt_or_ge j i with hlt | hge
    · exact h.2.2.2 j y hlt hy e he
    · obtain rfl : j = i := by omega
      rw [hz] at hy
      cases hy
      exact hc e he⟩
theorem Step.b8Out {S : List Nat} {a : Nat × Obj} {Ll Lp G : List (Nat × Obj)} {w w' : World} (h : Step S (Ll ++ (Lp ++ (a :: G))) w w') : Step S (Ll ++ (a :: (Lp ++ G))) w w' := h.perm (by
  classical exact List.perm_iff_count.2 fun x => by simp only [List.count_append, List.count_cons]; omega)
section
variable {bp : Nat} {s : AS} {D L : List (Nat × Obj)} {d x : List UInt8} {w0 : World}
set_option maxHeartbeats 8000000 in
theorem below8_spec {A U : List (List UInt8)} {u : Value} (hR : PRep bp s D L) (ok : s.Ok) (hw : Lives (L ++ D) w0) (hd : d.length = 32) (hx : x.length = 32) (hu : Dgs w0 u A) (hU : U.length ≤ 65536) (hdU : d ∈ U) (hcl : ∀ y ∈ A, ∀ z ∈ partsX s y, z ∈ U) (hU32 : ∀ y ∈ U, y.length = 32) (hrch : Rch (partsA s A) d x) :
    Calls Tryz.prog 53 #[.pointer (some ⟨bp, 0, none⟩), u, .agg (u8s d).toArray, .agg (u8s x).toArray] w0 (Ret0 (.bool true) w0) := by
  have hs : Step [] [] w0 w0 := Step.refl w0
  have hdl : (u8s d).length = 32 := by rw [u8s, List.length_map, hd]
  have hxl : (u8s x).length = 32 := by rw [u8s, List.length_map, hx]
  have ob := hu.form
  obtain ⟨ua, uc, rfl⟩ := ob
  refine calls (n := 57) Tryz.func53 rfl rfl rfl ?_
  repeat (first | refine CW.seq ?_ | refine CW.block ?_ | refine CW.skip ?_ | refine CW.label ?_ | refine CW.exit ?_ | refine CW.condT rfl ?_ | refine CW.condF rfl ?_)
  refine CW.reg ?_
  refine WL.box (cs := u8s d) rfl rfl rfl hs (fun b6 w hs => ?_)
  refine WL.box (cs := u8s x) rfl rfl rfl hs (fun b7 w hs => ?_)
  refine WL.val rfl (run_assign) ?_
  refine WL.nil ?_
  repeat (first | refine CW.seq ?_ | refine CW.block ?_ | refine CW.skip ?_ | refine CW.label ?_ | refine CW.exit ?_ | refine CW.condT rfl ?_ | refine CW.condF rfl ?_)
  refine CW.reg ?_
  refine WL.val rfl (run_loadN ty44 rfl hdl hs.a1) ?_
  refine WL.buildSlice (cs := u8s d) Tryz.underlying35 ty44 rfl (by decide) rfl (filled1 hdl rfl) rfl hs (fun b14 w hs => ?_)
  refine WL.val rfl (run_assign) ?_
  refine WL.nil ?_
  have hv0 : OwnSl 44 32 (.slice (some ⟨b14, 0, none⟩) 1 1) [d].length (digsL [d]) [(b14, blk 44 (u8s d))] := by
    have e : digsL [d] = u8s d := by simp [digsL]
    rw [e]
    exact OwnSl.mk (k := 1) (by rw [hdl])
  replace hs : Step [] ([(b14, blk 44 (u8s d))] ++ ((b7, blk 44 (u8s x)) :: [(b6, blk 44 (u8s d))])) w0 w := hs
  have h0 : BelTo s A U d x 0 [d] := ⟨by simp, by simp, fun y hy => by rw [List.mem_singleton.1 hy]; exact hdU, fun j y hj => absurd hj (Nat.not_lt_zero _)⟩
  refine CW.seqM (fun f w => False) ?_ (fun f w h => h.elim)
  repeat (first | refine CW.seq ?_ | refine CW.block ?_ | refine CW.skip ?_ | refine CW.label ?_ | refine CW.exit ?_ | refine CW.condT rfl ?_ | refine CW.condF rfl ?_)
  refine CW.reg ?_
  refine WL.val rfl (run_assign) ?_
  refine WL.nil ?_
  repeat (first | refine CW.seq ?_ | refine CW.block ?_ | refine CW.skip ?_ | refine CW.label ?_ | refine CW.exit ?_ | refine CW.condT rfl ?_ | refine CW.condF rfl ?_)
  refine CW.loop (fun zz f w' => ∃ (i : Nat) (l : List (List UInt8)) (vl : Value) (Ll G : List (Nat × Obj)), i ≤ l.length ∧ zz = 65536 - i ∧ BelTo s A U d x i l ∧ OwnSl 44 32 vl l.length (digsL l) Ll ∧ Step [] (Ll ++ ((b7, blk 44 (u8s x)) :: G)) w0 w' ∧ Holds f [(0, .pointer (some ⟨bp, 0, none⟩)), (1, .slice ua A.length uc), (7, .pointer (some ⟨b7, 0, none⟩)), (9, vl), (10, .int .i64 (i : Nat))]) (m := 65536) ?_ ?_
  · exact ⟨0, [d], _, _, _, Nat.zero_le _, rfl, h0, hv0, hs, rfl, rfl, rfl, rfl, rfl, trivial⟩
  clear hs hv0 h0
  rintro zz f w ⟨i, l, vl, Ll, G, hi, rfl, hT, hvl, hs, hf⟩
  have hll := Nat.le_trans (nodup_len hT.1 hT.2.2.1) hU
  have hlp : 0 < l.length := List.length_pos_of_mem hT.2.1
  have hl32 : ∀ y ∈ l, y.length = 32 := fun y hy => hU32 y (hT.2.2.1 y hy)
  have ob := hvl.some1 hlp
  obtain ⟨bl, cl, ml, rfl, rfl, hml⟩ := ob
  have ob := hf.chain
  obtain ⟨g, rfl⟩ := ob
  by_cases hlt : i < l.length
  · have ob : ∃ z, l[i]? = some z := ⟨_, List.getElem?_eq_getElem hlt⟩
    obtain ⟨z, hz⟩ := ob
    have hzm := List.mem_of_getElem? hz
    have hz32 := hl32 z hzm
    have hzl : (u8s z).length = 32 := by rw [u8s, List.length_map, hz32]
    have hzat : ∀ {w : World}, Step [] ([(bl, blk 44 (digsL l ++ ml))] ++ ((b7, blk 44 (u8s x)) :: G)) w0 w → At w bl (0 + i * 32) (u8s z) := fun h => digsL_at hl32 (At.of_blk (h.has (bl, blk 44 (digsL l ++ ml)) (by simp))).left hz
    have hha := fun {w1 : World} (h : Step [] [] w0 w1) => hasL8_spec (w0 := w1) (hu.step0 h) hz32
    repeat (first | refine CW.seq ?_ | refine CW.block ?_ | refine CW.skip ?_ | refine CW.label ?_ | refine CW.exit ?_ | refine CW.condT rfl ?_ | refine CW.condF rfl ?_)
    refine CW.reg ?_
    refine WL.val rfl (run_move) ?_
    refine WL.val rfl (run_move) ?_
    refine WL.val rfl (run_lenSl Tryz.underlying35 rfl) ?_
    refine WL.val rfl (run_bT (run_lss rfl rfl) (by omega)) ?_
    refine WL.nil ?_
    repeat (first | refine CW.seq ?_ | refine CW.block ?_ | refine CW.skip ?_ | refine CW.label ?_ | refine CW.exit ?_)
    first | refine CW.condP rfl (fun h => ?_) (fun h => ?_) | refine CW.cond rfl (fun h => ?_) (fun h => ?_)
    · refine CW.skip ?_
      refine CW.seqM (fun f w => ∃ (l : List (List UInt8)) (vl : Value) (Ll G : List (Nat × Obj)), i + 1 ≤ l.length ∧ BelTo s A U d x (i + 1) l ∧ OwnSl 44 32 vl l.length (digsL l) Ll ∧ Step [] (Ll ++ ((b7, blk 44 (u8s x)) :: G)) w0 w ∧ Holds f [(0, .pointer (some ⟨bp, 0, none⟩)), (1, .slice ua A.length uc), (7, .pointer (some ⟨b7, 0, none⟩)), (9, vl), (10, .int .i64 (i : Nat))]) ?_ ?_
      · by_cases hzA : z ∈ A
        · rw [decide_eq_true hzA] at hha
          repeat (first | refine CW.seq ?_ | refine CW.block ?_ | refine CW.skip ?_ | refine CW.label ?_ | refine CW.exit ?_ | refine CW.condT rfl ?_ | refine CW.condF rfl ?_)
          refine CW.reg ?_
          refine WL.val rfl (run_move) ?_
          refine WL.val rfl (run_move) ?_
          refine WL.val rfl (run_move) ?_
          first | refine WL.val rfl (run_ixSlN Tryz.underlying35 ty44 rfl rfl (by omega)) ?_ | refine WL.val rfl (run_ixSl Tryz.underlying35 ty44 rfl rfl (by omega)) ?_
          refine WL.val rfl (run_loadN ty44 rfl hzl (hzat hs)) ?_
          refine WL.enter rfl (run_call en32 rfl rfl) (hha hs.clear) ?_
          rintro e w ⟨rfl, hq⟩
          refine ⟨_, rfl, ?_⟩
          replace hs := hs.callE hq
          first | refine WL.val rfl (run_notB rfl) ?_ | refine WL.val rfl (run_not rfl) ?_
          refine WL.nil ?_
          repeat (first | refine CW.seq ?_ | refine CW.block ?_ | refine CW.skip ?_ | refine CW.label ?_ | refine CW.exit ?_)
          first | refine CW.condP rfl (fun h => ?_) (fun h => ?_) | refine CW.cond rfl (fun h => ?_) (fun h => ?_)
          · cases h
          repeat (first | refine CW.seq ?_ | refine CW.block ?_ | refine CW.skip ?_ | refine CW.label ?_ | refine CW.exit ?_ | refine CW.condT rfl ?_ | refine CW.condF rfl ?_)
          refine CW.reg ?_
          refine WL.val rfl (run_move) ?_
          refine WL.val rfl (run_move) ?_
          refine WL.val rfl (run_move) ?_
          first | refine WL.val rfl (run_ixSlN Tryz.underlying35 ty44 rfl rfl (by omega)) ?_ | refine WL.val rfl (run_ixSl Tryz.underlying35 ty44 rfl rfl (by omega)) ?_
          refine WL.val rfl (run_loadN ty44 rfl hzl (hzat hs)) ?_
          refine WL.enter rfl (run_call en51 rfl rfl) (parts8_spec hR ok (hw.after hs.clear) hz32) ?_
          rintro e w ⟨vp, Lp, rfl, hvp, hp32, hpl, hq⟩
          refine ⟨_, rfl, ?_⟩
          replace hs := Step.call0 hs hq
          refine WL.val rfl (run_assign) ?_
          refine WL.nil ?_
          have ob : ∃ ps, partsX s z = ps := ⟨_, rfl⟩
          obtain ⟨ps, hps⟩ := ob
          have hpA : partsA s A z = ps := by rw [partsA, if_pos hzA, hps]
          have hpU := hcl z hzA
          rw [hps] at hvp hp32 hpl hpU
          have ob := hvp.form
          obtain ⟨pa, pc, rfl⟩ := ob
          have hhp := fun {w1 : World} (h : ∀ p ∈ Lp, w1.heap[p.1]? = some p.2) => hasL8_spec (w0 := w1) (Dgs.own hvp h hp32 (by omega)) hx
          have hxa : At w b7 0 (u8s x) := At.of_blk (hs.has (b7, blk 44 (u8s x)) (by simp))
          by_cases hxp : x ∈ ps
          · rw [decide_eq_true hxp] at hhp
            repeat (first | refine CW.seq ?_ | refine CW.block ?_ | refine CW.skip ?_ | refine CW.label ?_ | refine CW.exit ?_ | refine CW.condT rfl ?_ | refine CW.condF rfl ?_)
            refine CW.reg ?_
            refine WL.val rfl (run_move) ?_
            refine WL.val rfl (run_loadN ty44 rfl hxl hxa) ?_
            refine WL.enter rfl (run_call en32 rfl rfl) (hhp (fun p hp => hs.has p (by simp [hp]))) ?_
            rintro e w ⟨rfl, hq⟩
            refine ⟨_, rfl, ?_⟩
            replace hs := hs.callE hq
            refine WL.nil ?_
            repeat (first | refine CW.seq ?_ | refine CW.block ?_ | refine CW.skip ?_ | refine CW.label ?_ | refine CW.exit ?_)
            first | refine CW.condP rfl (fun h => ?_) (fun h => ?_) | refine CW.cond rfl (fun h => ?_) (fun h => ?_)
            · repeat (first | refine CW.seq ?_ | refine CW.block ?_ | refine CW.skip ?_ | refine CW.label ?_ | refine CW.exit ?_ | refine CW.condT rfl ?_ | refine CW.condF rfl ?_)
              refine CW.reg ?_
              refine WL.val rfl (run_assign) ?_
              refine WL.nil ?_
              repeat (first | refine CW.seq ?_ | refine CW.block ?_ | refine CW.skip ?_ | refine CW.label ?_ | refine CW.exit ?_ | refine CW.condT rfl ?_ | refine CW.condF rfl ?_)
              refine CW.ret ?_
              refine fin_ret1 rfl ?_
              exact ⟨rfl, hs.clear⟩
            · cases h
          rw [decide_eq_false hxp] at hhp
          repeat (first | refine CW.seq ?_ | refine CW.block ?_ | refine CW.skip ?_ | refine CW.label ?_ | refine CW.exit ?_ | refine CW.condT rfl ?_ | refine CW.condF rfl ?_)
          refine CW.reg ?_
          refine WL.val rfl (run_move) ?_
          refine WL.val rfl (run_loadN ty44 rfl hxl hxa) ?_
          refine WL.enter rfl (run_call en32 rfl rfl) (hhp (fun p hp => hs.has p (by simp [hp]))) ?_
          rintro e w ⟨rfl, hq⟩
          refine ⟨_, rfl, ?_⟩
          replace hs := hs.callE hq
          refine WL.nil ?_
          repeat (first | refine CW.seq ?_ | refine CW.block ?_ | refine CW.skip ?_ | refine CW.label ?_ | refine CW.exit ?_)
          first | refine CW.condP rfl (fun h => ?_) (fun h => ?_) | refine CW.cond rfl (fun h => ?_) (fun h => ?_)
          · cases h
          replace hs : Step [] ([(bl, blk 44 (digsL l ++ ml))] ++ (Lp ++ ((b7, blk 44 (u8s x)) :: G))) w0 w := hs.perm (by
            classical exact List.perm_iff_count.2 fun a => by simp only [List.count_append, List.count_cons]; omega)
          repeat (first | refine CW.seq ?_ | refine CW.block ?_ | refine CW.skip ?_ | refine CW.label ?_ | refine CW.exit ?_ | refine CW.condT rfl ?_ | refine CW.condF rfl ?_)
          refine CW.reg ?_
          refine WL.val rfl (run_assign) ?_
          refine WL.nil ?_
          repeat (first | refine CW.seq ?_ | refine CW.block ?_ | refine CW.skip ?_ | refine CW.label ?_ | refine CW.exit ?_ | refine CW.condT rfl ?_ | refine CW.condF rfl ?_)
          refine CW.loop (fun zz f w' => ∃ (k : Nat) (l : List (List UInt8)) (vl : Value) (Ll G : List (Nat × Obj)), k ≤ ps.length ∧ zz = ps.length - k ∧ i < l.length ∧ l[i]? = some z ∧ BelTo s A U d x i l ∧ (∀ y ∈ ps.take k, y ∈ l) ∧ OwnSl 44 32 vl l.length (digsL l) Ll ∧ Step [] (Ll ++ (Lp ++ ((b7, blk 44 (u8s x)) :: G))) w0 w' ∧ Holds f [(0, .pointer (some ⟨bp, 0, none⟩)), (1, .slice ua A.length uc), (7, .pointer (some ⟨b7, 0, none⟩)), (9, vl), (10, .int .i64 (i : Nat)), (11, .slice pa ps.length pc), (12, .int .i64 (k : Nat))]) (m := ps.length) ?_ ?_
          · exact ⟨0, l, _, _, _, Nat.zero_le _, rfl, hlt, hz, hT, (fun e he => by simp at he), hvl, hs, rfl, rfl, rfl, rfl, rfl, rfl, rfl, trivial⟩
          clear hs hvl hT hlt hz hl32 hll hlp hml hzat hzm hxa
          rintro zz f w ⟨k, l, vl, Ll, G, hk, rfl, hlt, hz, hT, htk, hvl, hs, hf⟩
          have hll := Nat.le_trans (nodup_len hT.1 hT.2.2.1) hU
          have hl32 : ∀ y ∈ l, y.length = 32 := fun y hy => hU32 y (hT.2.2.1 y hy)
          have ob := hvl.form
          obtain ⟨va, vc, rfl⟩ := ob
          have ob := hf.chain
          obtain ⟨g, rfl⟩ := ob
          by_cases hkl : k < ps.length
          · have ob := hvp.some1 (by omega)
            obtain ⟨bu, cu, more, hu1, hu2, hu3⟩ := ob
            cases hu1
            subst hu2
            have ob : ∃ y, ps[k]? = some y := ⟨_, List.getElem?_eq_getElem hkl⟩
            obtain ⟨y, hy⟩ := ob
            have hym := List.mem_of_getElem? hy
            have hy32 := hp32 y hym
            have hyl : (u8s y).length = 32 := by rw [u8s, List.length_map, hy32]
            have hyat : ∀ {w1 : World} {Ll : List (Nat × Obj)}, Step [] (Ll ++ ([(bu, blk 44 (digsL ps ++ more))] ++ ((b7, blk 44 (u8s x)) :: G))) w0 w1 → At w1 bu (0 + k * 32) (u8s y) := fun h => digsL_at hp32 (At.of_blk (h.has (bu, blk 44 (digsL ps ++ more)) (by simp))).left hy
            have htk1 : ps.take (k + 1) = ps.take k ++ [y] := by rw [List.take_add_one, hy]; rfl
            have hhas := fun {w1 : World} (h : ∀ p ∈ Ll, w1.heap[p.1]? = some p.2) => hasL8_spec (w0 := w1) (Dgs.own hvl h hl32 (by omega)) hy32
            repeat (first | refine CW.seq ?_ | refine CW.block ?_ | refine CW.skip ?_ | refine CW.label ?_ | refine CW.exit ?_ | refine CW.condT rfl ?_ | refine CW.condF rfl ?_)
            refine CW.reg ?_
            refine WL.val rfl (run_move) ?_
            refine WL.val rfl (run_move) ?_
            refine WL.val rfl (run_lenSl Tryz.underlying35 rfl) ?_
            refine WL.val rfl (run_bT (run_lss rfl rfl) (by omega)) ?_
            refine WL.nil ?_
            repeat (first | refine CW.seq ?_ | refine CW.block ?_ | refine CW.skip ?_ | refine CW.label ?_ | refine CW.exit ?_)
            first | refine CW.condP rfl (fun h => ?_) (fun h => ?_) | refine CW.cond rfl (fun h => ?_) (fun h => ?_)
            · by_cases hm : y ∈ l
              · rw [decide_eq_true hm] at hhas
                repeat (first | refine CW.seq ?_ | refine CW.block ?_ | refine CW.skip ?_ | refine CW.label ?_ | refine CW.exit ?_ | refine CW.condT rfl ?_ | refine CW.condF rfl ?_)
                refine CW.reg ?_
                refine WL.val rfl (run_move) ?_
                refine WL.val rfl (run_move) ?_
                refine WL.val rfl (run_move) ?_
                first | refine WL.val rfl (run_ixSlN Tryz.underlying35 ty44 rfl rfl (by omega)) ?_ | refine WL.val rfl (run_ixSl Tryz.underlying35 ty44 rfl rfl (by omega)) ?_
                refine WL.val rfl (run_loadN ty44 rfl hyl (hyat hs)) ?_
                refine WL.enter rfl (run_call en32 rfl rfl) (hhas (fun p hp => hs.has p (by simp [hp]))) ?_
                rintro e w ⟨rfl, hq⟩
                refine ⟨_, rfl, ?_⟩
                replace hs := hs.callE hq
                first | refine WL.val rfl (run_notB rfl) ?_ | refine WL.val rfl (run_not rfl) ?_
                refine WL.nil ?_
                repeat (first | refine CW.seq ?_ | refine CW.block ?_ | refine CW.skip ?_ | refine CW.label ?_ | refine CW.exit ?_)
                first | refine CW.condP rfl (fun h => ?_) (fun h => ?_) | refine CW.cond rfl (fun h => ?_) (fun h => ?_)
                · cases h
                repeat (first | refine CW.seq ?_ | refine CW.block ?_ | refine CW.skip ?_ | refine CW.label ?_ | refine CW.exit ?_ | refine CW.condT rfl ?_ | refine CW.condF rfl ?_)
                refine CW.reg ?_
                refine WL.val rfl (run_move) ?_
                refine WL.val rfl (run_add (c := ((k + 1 : Nat) : Int)) rfl rfl (by omega) (by omega)) ?_
                refine WL.val rfl (run_assign) ?_
                refine WL.nil ?_
                repeat (first | refine CW.seq ?_ | refine CW.block ?_ | refine CW.skip ?_ | refine CW.label ?_ | refine CW.exit ?_)
                refine (show _ ∧ _ from ⟨rfl, _, ?_, k + 1, l, _, Ll, _, hkl, rfl, hlt, hz, hT, ?_, hvl, hs, rfl, rfl, rfl, rfl, rfl, rfl, rfl, trivial⟩)
                · omega
                · intro q hq
                  rw [htk1] at hq
                  rcases List.mem_append.1 hq with hq | hq
                  · exact htk q hq
                  · rw [List.mem_singleton.1 hq]; exact hm
              · rw [decide_eq_false hm] at hhas
                repeat (first | refine CW.seq ?_ | refine CW.block ?_ | refine CW.skip ?_ | refine CW.label ?_ | refine CW.exit ?_ | refine CW.condT rfl ?_ | refine CW.condF rfl ?_)
                refine CW.reg ?_
                refine WL.val rfl (run_move) ?_
                refine WL.val rfl (run_move) ?_
                refine WL.val rfl (run_move) ?_
                first | refine WL.val rfl (run_ixSlN Tryz.underlying35 ty44 rfl rfl (by omega)) ?_ | refine WL.val rfl (run_ixSl Tryz.underlying35 ty44 rfl rfl (by omega)) ?_
                refine WL.val rfl (run_loadN ty44 rfl hyl (hyat hs)) ?_
                refine WL.enter rfl (run_call en32 rfl rfl) (hhas (fun p hp => hs.has p (by simp [hp]))) ?_
                rintro e w ⟨rfl, hq⟩
                refine ⟨_, rfl, ?_⟩
                replace hs := hs.callE hq
                first | refine WL.val rfl (run_notB rfl) ?_ | refine WL.val rfl (run_not rfl) ?_
                refine WL.nil ?_
                repeat (first | refine CW.seq ?_ | refine CW.block ?_ | refine CW.skip ?_ | refine CW.label ?_ | refine CW.exit ?_)
                first | refine CW.condP rfl (fun h => ?_) (fun h => ?_) | refine CW.cond rfl (fun h => ?_) (fun h => ?_)
                · repeat (first | refine CW.seq ?_ | refine CW.block ?_ | refine CW.skip ?_ | refine CW.label ?_ | refine CW.exit ?_ | refine CW.condT rfl ?_ | refine CW.condF rfl ?_)
                  refine CW.reg ?_
                  refine WL.val rfl (run_move) ?_
                  refine WL.val rfl (run_move) ?_
                  refine WL.val rfl (run_move) ?_
                  first | refine WL.val rfl (run_ixSlN Tryz.underlying35 ty44 rfl rfl (by omega)) ?_ | refine WL.val rfl (run_ixSl Tryz.underlying35 ty44 rfl rfl (by omega)) ?_
                  refine WL.val rfl (run_loadN ty44 rfl hyl (hyat hs)) ?_
                  refine WL.buildSlice (cs := u8s y) Tryz.underlying35 ty44 rfl (by decide) rfl (filled1 hyl rfl) rfl hs (fun b55 w hs => ?_)
                  have hsl55 : Sl w 32 (.slice (some ⟨b55, 0, none⟩) 1 1) 1 (u8s y) := .own1 hs (by rw [hyl])
                  replace hs := Step.pIn hs
                  refine WL.append Tryz.underlying35 Tryz.underlying35 ty44 rfl (by decide) rfl rfl (hvl) (hs) (hsl55) (Cells1.u8s _) (by first | omega | (simp only [List.length_append, List.length_cons, List.length_nil]; omega)) rfl (fun v56 Lv56 w hv56 hs => ?_)
                  replace hs := Step.pOut hs
                  refine WL.val rfl (run_assign) ?_
                  refine WL.nil ?_
                  have hv2 : OwnSl 44 32 v56 (l ++ [y]).length (digsL (l ++ [y])) Lv56 := by
                    rw [List.length_append, digsL_snoc]; exact hv56
                  repeat (first | refine CW.seq ?_ | refine CW.block ?_ | refine CW.skip ?_ | refine CW.label ?_ | refine CW.exit ?_ | refine CW.condT rfl ?_ | refine CW.condF rfl ?_)
                  refine CW.reg ?_
                  refine WL.val rfl (run_move) ?_
                  refine WL.val rfl (run_add (c := ((k + 1 : Nat) : Int)) rfl rfl (by omega) (by omega)) ?_
                  refine WL.val rfl (run_assign) ?_
                  refine WL.nil ?_
                  repeat (first | refine CW.seq ?_ | refine CW.block ?_ | refine CW.skip ?_ | refine CW.label ?_ | refine CW.exit ?_)
                  refine (show _ ∧ _ from ⟨rfl, _, ?_, k + 1, l ++ [y], _, Lv56, _, hkl, rfl, by rw [List.length_append]; omega, by rw [List.getElem?_append_left hlt]; exact hz, hT.add (by omega) hm (hpU y hym), ?_, hv2, hs, rfl, rfl, rfl, rfl, rfl, rfl, rfl, trivial⟩)
                  · omega
                  · intro q hq
                    rw [htk1] at hq
                    rcases List.mem_append.1 hq with hq | hq
                    · exact List.mem_append_left _ (htk q hq)
                    · rw [List.mem_singleton.1 hq]; simp
                · cases h
            · cases h
          · obtain rfl : k = ps.length := by omega
            rw [List.take_length] at htk
            repeat (first | refine CW.seq ?_ | refine CW.block ?_ | refine CW.skip ?_ | refine CW.label ?_ | refine CW.exit ?_ | refine CW.condT rfl ?_ | refine CW.condF rfl ?_)
            refine CW.reg ?_
            refine WL.val rfl (run_move) ?_
            refine WL.val rfl (run_move) ?_
            refine WL.val rfl (run_lenSl Tryz.underlying35 rfl) ?_
            refine WL.val rfl (run_bF (run_lss rfl rfl) (by omega)) ?_
            refine WL.nil ?_
            repeat (first | refine CW.seq ?_ | refine CW.block ?_ | refine CW.skip ?_ | refine CW.label ?_ | refine CW.exit ?_)
            first | refine CW.condP rfl (fun h => ?_) (fun h => ?_) | refine CW.cond rfl (fun h => ?_) (fun h => ?_)
            · cases h
            repeat (first | refine CW.seq ?_ | refine CW.block ?_ | refine CW.skip ?_ | refine CW.label ?_ | refine CW.exit ?_ | refine CW.condT rfl ?_ | refine CW.condF rfl ?_)
            exact ⟨rfl, l, _, Ll, _, hlt, hT.next hz (fun q hq => by rw [hpA] at hq; exact ⟨htk q hq, fun e => hxp (e ▸ hq)⟩), hvl, Step.b8Out hs, rfl, rfl, rfl, rfl, rfl, trivial⟩
        · rw [decide_eq_false hzA] at hha
          repeat (first | refine CW.seq ?_ | refine CW.block ?_ | refine CW.skip ?_ | refine CW.label ?_ | refine CW.exit ?_ | refine CW.condT rfl ?_ | refine CW.condF rfl ?_)
          refine CW.reg ?_
          refine WL.val rfl (run_move) ?_
          refine WL.val rfl (run_move) ?_
          refine WL.val rfl (run_move) ?_
          first | refine WL.val rfl (run_ixSlN Tryz.underlying35 ty44 rfl rfl (by omega)) ?_ | refine WL.val rfl (run_ixSl Tryz.underlying35 ty44 rfl rfl (by omega)) ?_
          refine WL.val rfl (run_loadN ty44 rfl hzl (hzat hs)) ?_
          refine WL.enter rfl (run_call en32 rfl rfl) (hha hs.clear) ?_
          rintro e w ⟨rfl, hq⟩
          refine ⟨_, rfl, ?_⟩
          replace hs := hs.callE hq
          first | refine WL.val rfl (run_notB rfl) ?_ | refine WL.val rfl (run_not rfl) ?_
          refine WL.nil ?_
          repeat (first | refine CW.seq ?_ | refine CW.block ?_ | refine CW.skip ?_ | refine CW.label ?_ | refine CW.exit ?_)
          first | refine CW.condP rfl (fun h => ?_) (fun h => ?_) | refine CW.cond rfl (fun h => ?_) (fun h => ?_)
          · repeat (first | refine CW.seq ?_ | refine CW.block ?_ | refine CW.skip ?_ | refine CW.label ?_ | refine CW.exit ?_ | refine CW.condT rfl ?_ | refine CW.condF rfl ?_)
            exact ⟨rfl, l, _, _, G, hlt, hT.next hz (fun q hq => by rw [partsA, if_neg hzA] at hq; cases hq), hvl, hs, rfl, rfl, rfl, rfl, rfl, trivial⟩
          · cases h
      clear hs hvl hT hlt hz hl32 hll hlp hml hzat hzm
      rintro f w ⟨l, vl, Ll, G, hlt, hT, hvl, hs, hf⟩
      have ob := hf.chain
      obtain ⟨g, rfl⟩ := ob
      have hll := Nat.le_trans (nodup_len hT.1 hT.2.2.1) hU
      repeat (first | refine CW.seq ?_ | refine CW.block ?_ | refine CW.skip ?_ | refine CW.label ?_ | refine CW.exit ?_ | refine CW.condT rfl ?_ | refine CW.condF rfl ?_)
      refine CW.reg ?_
      refine WL.val rfl (run_move) ?_
      refine WL.val rfl (run_add (c := ((i + 1 : Nat) : Int)) rfl rfl (by omega) (by omega)) ?_
      refine WL.val rfl (run_assign) ?_
      refine WL.nil ?_
      repeat (first | refine CW.seq ?_ | refine CW.block ?_ | refine CW.skip ?_ | refine CW.label ?_ | refine CW.exit ?_)
      refine (show _ ∧ _ from ⟨rfl, _, ?_, i + 1, l, vl, Ll, G, hlt, rfl, hT, hvl, hs, rfl, rfl, rfl, rfl, rfl, trivial⟩)
      omega
    · cases h
  · obtain rfl : i = l.length := by omega
    exact (hrch.shut hT.2.1 fun y hy q hq => by
      have ob := List.mem_iff_getElem.1 hy
      obtain ⟨j, hj, hje⟩ := ob
      exact hT.2.2.2 j y hj (by rw [List.getElem?_eq_getElem hj, hje]) q hq).elim
end
end Go.Gx
namespace Go.Gx
open Go.Proofs List
attribute [local irreducible] shaL cutD frontL decL decE
section
variable{s:AS}{rm:Rm}{A:U8→Prop}
theorem kid_dir{x:Std}{z:Ent} (h:(kidOf x z).dir=true):z.kind=2:=by
 simpa[kidOf] using h
theorem seqS_in2{f:Std→WS→Int×WS} (hf:∀x t,MLe t (f x t).2){T:WS}:∀(l:List Std) (t:WS),(∀y∈l,∀u,(f y u).1=0→MLe (f y u).2 T→(∀p∈u.m,p.2=true→A p.1)→∀p∈(f y u).2.m,p.2=true→A p.1)→(seqS f l t).1=0→MLe (seqS f l t).2 T→(∀p∈t.m,p.2=true→A p.1)→∀p∈(seqS f l t).2.m,p.2=true→A p.1
 | [],t,_,_,_,ht=>ht
 | y::l,t,h,h0,hT,ht=>by
  by_cases c:(f y t).1≠0
  ·rw[seqS,if_pos c] at h0
   exact absurd h0 c
  rw[seqS,if_neg c] at h0 hT⊢
  have hp:=seqS_mle hf l (f y t).2
  exact seqS_in2 hf l _ (fun z hz=>h z (by simp[hz])) h0 hT (h y (by simp) t (by simpa using c) (fun p hq=>hT p (hp p hq)) ht)
theorem standP_dirs{T:WS} (hA:∀y,A y→(y,true)∈T.m→∀e∈decL (s.get y).1,e.kind=2→A e.dig):∀(n:Nat) (x:Std) (t:WS),(standP s rm n x t).1=0→MLe (standP s rm n x t).2 T→(x.dir=true→A x.d)→(∀p∈t.m,p.2=true→A p.1)→∀p∈(standP s rm n x t).2.m,p.2=true→A p.1
 | 0,x,t,h,_,_,_=>by rw[standP] at h;cases h
 | n+1,x,t,h,hT,hx,ht=>by
  have hv:(visit s rm x t).1=0:=by
   by_cases c:(visit s rm x t).1=0
   ·exact c
   ·rw[standP,if_pos c] at h
    exact absurd h c
  rw[standP,if_neg (fun k=>k hv)] at h hT⊢
  have hp:=seqS_mle (fun y u p hp=>standP_mle (s:=s) (rm:=rm) n y (push y u) p (push_mle y u p hp)) (visit s rm x t).2.1 (visit s rm x t).2.2
  have hm:=visit_m hv
  have hxT:(x.d,x.dir)∈T.m:=hT _ (hp _ (visit_met hv))
  have hkid:∀y∈(visit s rm x t).2.1,y.dir=true→A y.d:=by
   rcases (visit_ok hv).2.2.2 with⟨hd,_,e⟩ | ⟨_,_,e⟩
   ·intro y hy hyd
    rw[e] at hy
    have ob:=mem_map.1 hy
    obtain⟨z,hz,rfl⟩:=ob
    rw[hd] at hxT
    exact hA _ (hx hd) hxT z hz (kid_dir hyd)
   ·intro y hy
    rw[e] at hy
    cases hy
  refine seqS_in2 (fun y u p hp=>standP_mle n y (push y u) p (push_mle y u p hp)) _ _ (fun y hy u h1 h2 hu=>standP_dirs hA n y (push y u) h1 h2 (hkid y hy) (fun p hp=>hu p (by rw[push_m] at hp;exact hp))) h hT fun p hp=>?_
  rw[hm] at hp
  rcases mem_append.1 hp with hp | hp
  ·exact ht p hp
  ·rw[mem_singleton] at hp
   rw[hp];exact hx
end
theorem raw_got{s:AS}{d:U8} (h:(s.get d).2=0):partsX s d=partsD s d:=by
 rw[partsX,partsD,get_raw h]
theorem dirs_iff{s:AS}{d:U8}{t:WS}{A:List (List UInt8)} (h:runs s rmG [rootS d] ws0=(0,t)) (hm:Met s d t.m) (hA:DirsOk s d ((t.m.filter fun p=>p.2).map (·.1)) A):∀x,x∈A↔(x,true)∈t.m:=by
 intro x
 constructor
 ·intro hx
  have ob:=mem_map.1 (hA.sub x hx)
  obtain⟨p,hp,rfl⟩:=ob
  rw[mem_filter] at hp
  obtain⟨⟨pd,pb⟩,hp1,hp2⟩:∃q,q∈t.m∧(q.1,true)=(p.1,true)∧q.2=true:=⟨p,hp.1,rfl,hp.2⟩
  obtain⟨h1,h2⟩:=hp2
  simp only at h2
  subst h2
  simp only[Prod.mk.injEq,and_true] at h1
  rw[←h1];exact hp1
 ·intro hx
  rw[runs_root] at h
  have h2:=standP_dirs (s:=s) (rm:=rmG) (A:=fun y=>y∈A) (T:=t) (fun y hy hyt e he hk=>hA.closed y hy e (by rw[get_raw (hm.got _ hyt)];exact he) hk) 34 (rootS d) ws0 (by rw[h]) (by rw[h];exact fun _ h=>h) (fun _=>hA.head) (fun p hp=>by cases hp)
  rw[h] at h2
  exact h2 (x,true) hx rfl
theorem partsA_eq{s:AS}{d:U8}{m:List (List UInt8×Bool)}{A:List (List UInt8)} (hm:Met s d m) (h:∀x,x∈A↔(x,true)∈m):partsA s A=partsM s m:=by
 funext y
 rw[partsA,partsM]
 by_cases hy:y∈A
 ·rw[if_pos hy,if_pos ((h y).1 hy),raw_got (hm.got _ ((h y).1 hy))]
 ·rw[if_neg hy,if_neg (fun k=>hy ((h y).2 k))]
structure AbOk (s t t':AS) (r:Int×WS) (of:List (List UInt8)) (n:Nat) (f:Int):Prop where
 copy:CopyOk t t' (of.map fun x=>(x,(s.get x).1)) 0 n f
 num:((ordM r.2.m).filter fun x=>decide (t'.stamp x≠t.stamp x)).length=n
 below:∀x∈ordM r.2.m,t'.stamp x≠t.stamp x→∀p∈partsM s r.2.m x,t'.whole p=true∨Rch (partsM s r.2.m) p x
 same:∀d,r=runs s rmG [rootS d] ws0→r.1=0→f=0→runs t' rmG [rootS d] ws0=r
 few:n≤(ordM r.2.m).length
theorem whole_get{t:AS}{d:U8} (h:(t.get d).2=0):t.whole d=true:=by
 have ob:=get_found h
 obtain⟨b,hb,hf⟩:=ob
 rw[AS.whole,hb]
 simpa using hf
theorem abOk {s t t':AS}{d:U8}{r:Int×WS}{gf of:List (List UInt8)}{kk n:Nat}{f:Int} (ok:s.Ok) (sm:Small s) (okt:t.Ok) (hk:s.k=t.k) (hd:d.length=32) (hr:runs s rmG [rootS d] ws0=r) (h0:r.1=0) (hG:Goes (partsM s r.2.m) [d] [] [] gf of kk) (hc:copyR t (of.map fun x=>(x,(s.get x).1)) 0=(n,f,t')):AbOk s t t' r of n f:=by
 have hr2:runs s rmG [rootS d] ws0=(0,r.2):=by rw[hr,←h0]
 have hm:=runs_met hd hr2
 have ob:=goes_met hr2 hm hG
 obtain⟨hnd,hiff,hlen⟩:=ob
 have hgot:∀x∈of,(s.get x).2=0:=fun x hx=>by
  have h1:=(hiff x).1 hx
  rw[ordM_mem] at h1
  have ob:=mem_map.1 h1
  obtain⟨p,hp,rfl⟩:=ob
  exact hm.got p hp
 have hfst:(of.map fun x=>(x,(s.get x).1)).map (·.1)=of:=by
  rw[map_map]
  conv=>rhs;rw[←List.map_id of]
  rfl
 have K:=copy_ok hc okt (fun p hp=>by
  have ob:=mem_map.1 hp
  obtain⟨x,hx,rfl⟩:=ob
  exact⟨by rw[←hk];exact get_front (hgot x hx),sm.get x⟩) (by rw[hfst];exact hnd)
 have hpm:=perm_of hnd ordM_nodup hiff
 have hnum:((ordM r.2.m).filter fun x=>decide (t'.stamp x≠t.stamp x)).length=n:=by
  rw[K.num,hfst,Nat.zero_add]
  exact((hpm.filter _).length_eq).symm
 refine⟨K,hnum,fun x hx hst p hp=>?_,fun d2 hd2 _ hf=>?_,by rw[←hnum];exact length_filter_le _ _⟩
 ·have ob:=mem_iff_getElem.1 ((hiff x).2 hx)
  obtain⟨i,hi,hix⟩:=ob
  have hi2:of[i]?=some x:=by rw[getElem?_eq_getElem hi,hix]
  rcases (hG.behind (fun _=>False) (fun q hq=>by cases hq) (fun q hq=>hq.elim)).2 i x (Nat.zero_le _) hi2 p hp with h | h
  ·left
   have ob:=mem_iff_getElem.1 h
   obtain⟨j,hj,hjp⟩:=ob
   rw[length_take] at hj
   rw[getElem_take] at hjp
   have hjo:of[j]?=some p:=by rw[getElem?_eq_getElem (by omega),hjp]
   have h2:=K.laid i (x,(s.get x).1) (by rw[getElem?_map,hi2];rfl) hst j (by omega) (p,(s.get p).1) (by rw[getElem?_map,hjo];rfl)
   exact whole_get (by simp only at h2;rw[h2])
  ·exact .inr h
 ·rw[hd2]
  refine runs_same (by rw[←hd2];exact h0) fun p hp=>?_
  rw[←hd2] at hp
  have hpo:p.1∈of:=(hiff p.1).2 (by rw[ordM_mem];exact mem_map_of_mem hp)
  have h2:=K.all hf (p.1,(s.get p.1).1) (mem_map.2 ⟨p.1,hpo,rfl⟩)
  simp only at h2
  rw[h2,←hgot _ hpo]
theorem abTwo {s t t' t2:AS}{d:U8}{r:Int×WS}{gf of:List (List UInt8)}{kk n n2:Nat}{f f2:Int} (ok:s.Ok) (sm:Small s) (hk:s.k=t.k) (hd:d.length=32) (hr:runs s rmG [rootS d] ws0=r) (h0:r.1=0) (hG:Goes (partsM s r.2.m) [d] [] [] gf of kk) (H:AbOk s t t' r of n f) (hu:usedX t'.X+usedX s.X≤67108864) (hc:copyR (t'.limit 67108864).2 (of.map fun x=>(x,(s.get x).1)) 0=(n2,f2,t2)):(f2=0∨f2=44)∧n2+n≤(ordM r.2.m).length:=by
 have hr2:runs s rmG [rootS d] ws0=(0,r.2):=by rw[hr,←h0]
 have hm:=runs_met hd hr2
 have ob:=goes_met hr2 hm hG
 obtain⟨hnd,hiff,hlen⟩:=ob
 have hgot:∀x∈of,(s.get x).2=0:=fun x hx=>by
  have h1:=(hiff x).1 hx
  rw[ordM_mem] at h1
  have ob:=mem_map.1 h1
  obtain⟨p,hp,rfl⟩:=ob
  exact hm.got p hp
 have hfst:(of.map fun x=>(x,(s.get x).1)).map (·.1)=of:=by
  rw[map_map]
  conv=>rhs;rw[←List.map_id of]
  rfl
 have hlim:(t'.limit 67108864).2 = { t' with cap:=67108864 }:=by
  rw[AS.limit,if_pos (by decide)];rfl
 rw[hlim] at hc
 have ok2:({ t' with cap:=67108864 }:AS).Ok:=by rw[←hlim];exact H.copy.ok.limit _
 have K:=copy_ok hc ok2 (fun p hp=>by
  have ob:=mem_map.1 hp
  obtain⟨x,hx,rfl⟩:=ob
  refine⟨?_,sm.get x⟩
  show frontL _ t'.k=x
  rw[H.copy.k,←hk];exact get_front (hgot x hx)) (by rw[hfst];exact hnd)
 have hsum:((of.map fun x=>(x,(s.get x).1)).map fun p=>p.2.length+32).sum≤usedX s.X:=by
  rw[map_map]
  exact sum_found (f:=fun x=>(s.get x).1.length) ok.sorted hnd fun x hx=>by
   have ob:=get_found (hgot x hx)
   obtain⟨b,hb,hf⟩:=ob
   refine⟨b,hb,?_⟩
   rw[AS.get,hb]
   simp only
   rw[if_pos hf]
 refine⟨?_,?_⟩
 ·rcases K.err with h | h | h
  ·exact .inl h
  ·refine absurd h (K.room ?_)
   show usedX t'.X+_≤67108864
   omega
  ·exact .inr h
 ·have h1:=H.copy.num
  have h2:=K.num
  rw[hfst,Nat.zero_add] at h1 h2
  rw[←hlen,h1,h2,Nat.add_comm]
  refine filter_two fun x hx hp=>?_
  simp only[decide_eq_true_eq] at hp
  have ob:=mem_iff_getElem.1 hx
  obtain⟨i,hi,hix⟩:=ob
  have hi2:of[i]?=some x:=by rw[getElem?_eq_getElem hi,hix]
  have hl:=H.copy.laid i (x,(s.get x).1) (by rw[getElem?_map,hi2];rfl) hp i (Nat.le_refl _) (x,(s.get x).1) (by rw[getElem?_map,hi2];rfl)
  have hth:=K.there (x,(s.get x).1) (mem_map.2 ⟨x,hx,rfl⟩) hl
  simp only at hth
  simp[hth]
def CovD (s:AS) (t t':WS):Prop:=∃n,t'.m=t.m++n∧∀p∈n,p.2=true→∀e∈decL (s.get p.1).1,(e.dig,decide (e.kind=2))∈t'.m
section
variable{s:AS}{rm:Rm}{t u v:WS}
theorem CovD.refl (t:WS):CovD s t t:=⟨[],by simp,fun p hp=>by cases hp⟩
theorem CovD.trans (h:CovD s t u) (k:CovD s u v):CovD s t v:=by
 obtain⟨n,h1,h2⟩:=h
 obtain⟨l,k1,k2⟩:=k
 refine⟨n++l,by rw[k1,h1,append_assoc],fun p hp hd e he=>?_⟩
 rcases mem_append.1 hp with hp | hp
 ·rw[k1]
  exact mem_append_left _ (h2 p hp hd e he)
 ·exact k2 p hp hd e he
theorem CovD.mem (h:CovD s t u){p:U8×Bool} (hd:p∈t.m):p∈u.m:=by
 obtain⟨n,h1,_⟩:=h
 rw[h1]
 exact mem_append_left _ hd
theorem seqS_covD{f:Std→WS→Int×WS}:∀{l:List Std}{t:WS},(∀x∈l,∀t,(f x t).1=0→CovD s t (f x t).2∧(x.d,x.dir)∈(f x t).2.m)→(seqS f l t).1=0→CovD s t (seqS f l t).2∧∀x∈l,(x.d,x.dir)∈(seqS f l t).2.m
 | [],t,_,_=>⟨CovD.refl t,fun x hx=>by cases hx⟩
 | x::l,t,hf,he=>by
  rw[seqS] at he⊢
  by_cases c:(f x t).1≠0
  ·rw[if_pos c] at he;exact absurd he c
  ·rw[if_neg c] at he⊢
   have ob:=hf x (by simp) t (by simpa using c)
   obtain⟨h1,h2⟩:=ob
   have ob:=seqS_covD (fun y hy=>hf y (by simp[hy])) he
   obtain⟨h3,h4⟩:=ob
   refine⟨h1.trans h3,fun y hy=>?_⟩
   rcases mem_cons.1 hy with rfl | hy
   ·exact h3.mem h2
   ·exact h4 y hy
theorem standP_covD:∀(n:Nat){x:Std}{t:WS},(standP s rm n x t).1=0→CovD s t (standP s rm n x t).2∧(x.d,x.dir)∈(standP s rm n x t).2.m
 | 0,x,t,he=>by cases he
 | n+1,x,t,he=>by
  rw[standP] at he⊢
  by_cases c:(visit s rm x t).1≠0
  ·rw[if_pos c] at he;exact absurd he c
  ·rw[if_neg c] at he⊢
   have c0:(visit s rm x t).1=0:=by simpa using c
   have hm:=visit_m c0
   obtain⟨h1,h2⟩:=seqS_covD (s:=s) (f:=fun y u=>standP s rm n y (push y u)) (fun y hy u hu=>by
    have h3:=standP_covD n (x:=y) (t:=push y u) hu
    refine⟨?_,h3.2⟩
    have ob:=h3.1
    obtain⟨l,h4,h5⟩:=ob
    exact⟨l,by rw[h4,push_m],h5⟩) he
   have hin:(x.d,x.dir)∈(visit s rm x t).2.2.m:=by rw[hm];simp
   refine⟨?_,h1.mem hin⟩
   obtain⟨l,h4,h5⟩:=h1
   have ob:=visit_ok c0
   obtain⟨_,_,g0,hk⟩:=ob
   refine⟨(x.d,x.dir)::l,by rw[h4,hm,append_assoc];rfl,fun p hp=>?_⟩
   rcases mem_cons.1 hp with rfl | hp
   ·intro hd e he'
    rcases hk with⟨_,e0,ek⟩ | ⟨e0,_⟩
    ·exact h2 (kidOf x e) (by rw[ek];exact mem_map.2 ⟨e,he',rfl⟩)
    ·rw[e0] at hd;cases hd
   ·exact h5 p hp
end
theorem runs_dirs{s:AS}{d:U8}{t:WS} (h:runs s rmG [rootS d] ws0=(0,t)):(d,true)∈t.m∧∀x,(x,true)∈t.m→∀e∈decL (s.get x).1,e.kind=2→(e.dig,true)∈t.m:=by
 rw[runs_root] at h
 have h0:(standP s rmG 34 (rootS d) ws0).1=0:=by rw[h]
 have ob:=standP_covD 34 h0
 obtain⟨⟨n,h1,h2⟩,h3⟩:=ob
 rw[h] at h1 h2 h3
 have hn:t.m=n:=by rw[h1];rfl
 refine⟨h3,fun x hx e he hk=>?_⟩
 have h4:=h2 (x,true) (by rw[←hn];exact hx) rfl e he
 rw[hk] at h4
 exact h4
def dirL (m:List (List UInt8×Bool)):List (List UInt8):=(m.filter fun p=>p.2).map (·.1)
theorem dirL_mem{m:List (List UInt8×Bool)}{x:U8}:x∈dirL m↔(x,true)∈m:=by
 unfold dirL
 constructor
 ·intro hx
  have ob:=mem_map.1 hx
  obtain⟨⟨a,b⟩,hp,rfl⟩:=ob
  have ob:=mem_filter.1 hp
  obtain⟨h1,h2⟩:=ob
  simp only at h2
  subst h2
  exact h1
 ·exact fun hx=>mem_map.2 ⟨(x,true),mem_filter.2 ⟨hx,rfl⟩,rfl⟩
theorem dirL_len (m:List (List UInt8×Bool)):(dirL m).length≤m.length:=by
 unfold dirL
 rw[length_map]
 exact length_filter_le _ _
end Go.Gx
