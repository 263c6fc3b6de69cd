/- The document's side: Encode. -/
import Derived.Test.YtkdmkjlchlcebaaRef2
namespace Go.Gx
open Go.Proofs
set_option linter.unusedVariables false
set_option linter.unusedSimpArgs false
set_option maxRecDepth 100000

theorem bld_num (k n : Int) (w : World) : (Instr.build 73 #[(0, .int .i64 k), (1, .int .i64 n)]).run Try.prog w = .ok (.agg #[.int .i64 k, .int .i64 n, .slice none 0 0]) w := by kernel_rfl
theorem bld_bytes (k : Int) (a : Option Addr) (m c : Nat) (w : World) : (Instr.build 73 #[(0, .int .i64 k), (2, .slice a m c)]).run Try.prog w = .ok (.agg #[.int .i64 k, .int .i64 0, .slice a m c]) w := by kernel_rfl

theorem filled2 (z1 z2 z3 a1 a2 a3 b1 b2 b3 : Value) : Filled 3 2 [z1, z2, z3] [(0, .agg #[a1, a2, a3]), (1, .agg #[b1, b2, b3])] [a1, a2, a3, b1, b2, b3] := by
  simp [Filled, Instr.fill, Value.cells, List.replicate]
theorem filled3 (z1 z2 z3 a1 a2 a3 b1 b2 b3 c1 c2 c3 : Value) : Filled 3 3 [z1, z2, z3] [(0, .agg #[a1, a2, a3]), (1, .agg #[b1, b2, b3]), (2, .agg #[c1, c2, c3])] [a1, a2, a3, b1, b2, b3, c1, c2, c3] := by
  simp [Filled, Instr.fill, Value.cells, List.replicate]

theorem encodeR_bad {v : Value} {l : List Ent} (w0 : World) (hl : Es w0 v l) (hcap : Room v) (hc : checkE l ≠ 0) : Calls Try.prog 17 #[v] w0 (Ret0 (.tuple #[.slice none 0 0, .int .i64 (checkE l)]) w0) := by
  have hs : Step [] [] w0 w0 := Step.refl w0
  refine calls (n := 50) Try.func17 rfl rfl rfl ?_
  repeat (first | refine CW.seq ?_ | refine CW.block ?_ | refine CW.skip ?_ | refine CW.label ?_ | refine CW.exit ?_ | refine CW.condT rfl ?_ | refine CW.condF rfl ?_)
  refine CW.reg ?_
  refine WL.val rfl (run_assign) ?_
  refine WL.val rfl (run_assign) ?_
  refine WL.nil ?_
  repeat (first | refine CW.seq ?_ | refine CW.block ?_ | refine CW.skip ?_ | refine CW.label ?_ | refine CW.exit ?_ | refine CW.condT rfl ?_ | refine CW.condF rfl ?_)
  refine CW.reg ?_
  refine WL.val rfl (run_move) ?_
  refine WL.enter rfl (run_call en14 rfl rfl) (checkR_spec rfl _ hl hcap) ?_
  rintro e w ⟨rfl, hq⟩
  refine ⟨_, rfl, ?_⟩
  refine WL.val rfl (run_assign) ?_
  refine WL.nil ?_
  repeat (first | refine CW.seq ?_ | refine CW.block ?_ | refine CW.skip ?_ | refine CW.label ?_ | refine CW.exit ?_ | refine CW.condT rfl ?_ | refine CW.condF rfl ?_)
  refine CW.reg ?_
  refine WL.val rfl (run_move) ?_
  refine WL.val rfl (run_bT (run_neq rfl rfl) (by exact hc)) ?_
  refine WL.nil ?_
  repeat (first | refine CW.seq ?_ | refine CW.block ?_ | refine CW.skip ?_ | refine CW.label ?_ | refine CW.exit ?_ | refine CW.condT rfl ?_ | refine CW.condF rfl ?_)
  refine CW.reg ?_
  refine WL.val rfl (run_move) ?_
  refine WL.val rfl (run_assign) ?_
  refine WL.val rfl (run_assign) ?_
  refine WL.nil ?_
  repeat (first | refine CW.seq ?_ | refine CW.block ?_ | refine CW.skip ?_ | refine CW.label ?_ | refine CW.exit ?_ | refine CW.condT rfl ?_ | refine CW.condF rfl ?_)
  refine CW.ret ?_
  refine fin_ret2 rfl ?_
  exact ⟨rfl, hs.callE hq⟩

theorem entB_take {l : List Ent} (k : Nat) : (((l.take k).flatMap entB).length ≤ (l.flatMap entB).length) := by
  conv => rhs; rw [← List.take_append_drop k l]
  rw [List.flatMap_append, List.length_append]
  omega

theorem It.keep {S : List Nat} {L1 L2 : List (Nat × Obj)} {w w' : World} {x : It} (h : x.ok w) (hS : x.b = [] ∨ Outside x.bv S) (hs : Step S (L1 ++ L2) w w') : x.b = [] ∨ Outside x.bv (L1.map (·.1)) := by
  rcases hS with hS | hS
  · exact .inl hS
  · by_cases hb : x.b = []
    · exact .inl hb
    · refine .inr ?_
      rcases h with ⟨_, _, h⟩ | ⟨_, _, _, h⟩
      · rw [h]; trivial
      · exact Outside.fresh h (by simpa [u8s] using hb) hs hS (fun k hk => by simp only [List.map_append, List.mem_append]; exact .inl hk)

theorem encodeR_ok {v : Value} {l : List Ent} (w0 : World) (hl : Es w0 v l) (hcap : Room v) (hc : checkE l = 0) : Calls Try.prog 17 #[v] w0 fun e w' => ∃ v' Lv, e = .returned (.tuple #[v', .int .i64 0]) ∧ OwnSl 5 1 v' (encB l).length (u8s (encB l)) Lv ∧ Step [] Lv w0 w' := by
  have hs : Step [] [] w0 w0 := Step.refl w0
  have hlen : l.length ≤ 1024 := by
    unfold checkE at hc
    split at hc
    · cases hc
    · omega
  have herr : errE [] l = 0 := by
    unfold checkE at hc
    rwa [if_neg (by omega)] at hc
  have hall := errE_ok l [] herr
  have hnl : ∀ x ∈ l, x.name.length ≤ 64 := fun x hx => isName_len (hall x hx).2
  have hbl := encB_len hl.2.1 hnl
  obtain ⟨a, c, hv⟩ : ∃ a c, v = .slice a l.length c := by
    rcases hl.cases with ⟨_, c, rfl, rfl⟩ | ⟨b, off, c, rfl, _⟩ <;> exact ⟨_, _, rfl⟩
  subst hv
  refine calls (n := 50) Try.func17 rfl rfl rfl ?_
  repeat (first | refine CW.seq ?_ | refine CW.block ?_ | refine CW.skip ?_ | refine CW.label ?_ | refine CW.exit ?_ | refine CW.condT rfl ?_ | refine CW.condF rfl ?_)
  refine CW.reg ?_
  refine WL.val rfl (run_assign) ?_
  refine WL.val rfl (run_assign) ?_
  refine WL.nil ?_
  repeat (first | refine CW.seq ?_ | refine CW.block ?_ | refine CW.skip ?_ | refine CW.label ?_ | refine CW.exit ?_ | refine CW.condT rfl ?_ | refine CW.condF rfl ?_)
  refine CW.reg ?_
  refine WL.val rfl (run_move) ?_
  refine WL.enter rfl (run_call en14 rfl rfl) (checkR_spec hc _ hl hcap) ?_
  rintro e w ⟨rfl, hq⟩
  refine ⟨_, rfl, ?_⟩
  refine WL.val rfl (run_assign) ?_
  refine WL.nil ?_
  replace hs := hs.callE hq
  repeat (first | refine CW.seq ?_ | refine CW.block ?_ | refine CW.skip ?_ | refine CW.label ?_ | refine CW.exit ?_ | refine CW.condT rfl ?_ | refine CW.condF rfl ?_)
  refine CW.reg ?_
  refine WL.val rfl (run_move) ?_
  refine WL.val rfl (run_bF (run_neq rfl rfl) (by omega)) ?_
  refine WL.nil ?_
  repeat (first | refine CW.seq ?_ | refine CW.block ?_ | refine CW.skip ?_ | refine CW.label ?_ | refine CW.exit ?_ | refine CW.condT rfl ?_ | refine CW.condF rfl ?_)
  refine CW.reg ?_
  refine WL.val rfl (run_build rfl (bld_num _ _ _)) ?_
  refine WL.val rfl (run_move) ?_
  refine WL.val rfl (run_lenSl Try.underlying22 rfl) ?_
  refine WL.val rfl (run_build rfl (bld_num _ _ _)) ?_
  refine WL.buildSlice (cs := [.int .i64 1, .int .i64 1, .slice none 0 0, .int .i64 1, .int .i64 l.length, .slice none 0 0]) Try.underlying74 ty73 rfl (by decide) rfl (filled2 _ _ _ _ _ _ _ _ _) rfl hs (fun b16 w hs => ?_)
  refine WL.val rfl (run_assign) ?_
  refine WL.nil ?_
  repeat (first | refine CW.seq ?_ | refine CW.block ?_ | refine CW.skip ?_ | refine CW.label ?_ | refine CW.exit ?_ | refine CW.condT rfl ?_ | refine CW.condF rfl ?_)
  refine CW.reg ?_
  refine WL.val rfl (run_assign) ?_
  refine WL.nil ?_
  repeat (first | refine CW.seq ?_ | refine CW.block ?_ | refine CW.skip ?_ | refine CW.label ?_ | refine CW.exit ?_ | refine CW.condT rfl ?_ | refine CW.condF rfl ?_)
  refine CW.loop (fun m f w' => ∃ k its t Lt, k ≤ l.length ∧ m = l.length - k ∧ its.length = 2 + 3 * k ∧ its.flatMap It.put = formB 1 ++ formB l.length ++ (l.take k).flatMap entB ∧ OwnSl 73 3 t its.length (rowsI its) Lt ∧ Step [] Lt w0 w' ∧ (∀ x ∈ its, x.ok w' ∧ (x.b = [] ∨ Outside x.bv (Lt.map (·.1)))) ∧ Holds f [(0, .slice a l.length c), (5, t), (6, .int .i64 k)]) (m := l.length) ?_ ?_
  · refine ⟨0, _, _, _, by omega, by omega, ?_, ?_, .mk (xs := rowsI [⟨1, 1, .slice none 0 0, []⟩, ⟨1, l.length, .slice none 0 0, []⟩]) rfl, hs, ?_, rfl, rfl, rfl, trivial⟩
    · rfl
    · simp [It.put]
    · intro x hx
      simp only [List.mem_cons, List.not_mem_nil, or_false] at hx
      rcases hx with rfl | rfl
      · exact ⟨.inl ⟨rfl, by decide, rfl⟩, .inl rfl⟩
      · exact ⟨.inl ⟨rfl, by show l.length ≤ _; omega, rfl⟩, .inl rfl⟩
  · rintro m f w1 ⟨k, its, t, Lt, hk, rfl, hil, hput, ht, hs0, hits, hf⟩
    have hobt := hf.chain
    obtain ⟨g, rfl⟩ := hobt
    repeat (first | refine CW.seq ?_ | refine CW.block ?_ | refine CW.skip ?_ | refine CW.label ?_ | refine CW.exit ?_ | refine CW.condT rfl ?_ | refine CW.condF rfl ?_)
    refine CW.reg ?_
    refine WL.val rfl (run_move) ?_
    refine WL.val rfl (run_move) ?_
    refine WL.val rfl (run_lenSl Try.underlying22 rfl) ?_
    refine WL.val rfl (run_lss rfl rfl) ?_
    refine WL.nil ?_
    repeat (first | refine CW.seq ?_ | refine CW.block ?_ | refine CW.skip ?_ | refine CW.label ?_ | refine CW.exit ?_)
    first | refine CW.condP rfl (fun h => ?_) (fun h => ?_) | refine CW.cond rfl (fun h => ?_) (fun h => ?_)
    · have hlt : k < l.length := by omega
      rcases hl.cases with ⟨_, c', hv', rfl⟩ | ⟨b, off, c', hv', hat⟩
      · simp at hlt
      obtain ⟨rfl, rfl⟩ : a = some ⟨b, off, none⟩ ∧ c = c' := by cases hv'; exact ⟨rfl, rfl⟩
      have hok := hl.2.1.get hlt
      have hax := hat.ent hl.2.1 hlt
      have hmem := List.getElem_mem hlt
      have hbo : b ∉ Lt.map (·.1) := by
        intro hb
        have hobt := List.mem_map.1 hb
        obtain ⟨p, hp, hpb⟩ := hobt
        have h1 := hax.lt (by simp [Ent.cells])
        rcases hs0.new p hp with h2 | h2
        · cases h2
        · have hpb : p.1 = b := hpb; omega
      have hax1 : ∀ {w : World} {L : List (Nat × Obj)}, Step (Lt.map (·.1)) L w1 w → At w b (off + k * 34) (l[k]).cells := fun hw => (hax.step hs0 (by simp)).step hw hbo
      have hs := hs0.own0
      have hfm : (l.take (k + 1)).flatMap entB = (l.take k).flatMap entB ++ entB l[k] := by rw [List.take_succ_eq_append_getElem hlt, List.flatMap_append]; simp
      have hnk := hnl _ hmem
      have hkd := (hall _ hmem).1
      have hfl := frontB_len (l[k]).dig
      generalize hX : l[k] = x at *
      obtain ⟨nm, kd, dg⟩ := x
      have hkd : kd = 2 ∨ kd = 1 := hkd
      have hobt : ∃ kn : Nat, kd = kn := ⟨kd.toNat, by omega⟩
      obtain ⟨kn, rfl⟩ := hobt
      have hc1 : ∀ (fa : Option Addr) (fc fl b n c : Nat) (k : Nat), Cells1 [.int .i64 1, .int .i64 k, .slice none 0 0, .int .i64 5, .int .i64 0, .slice (some ⟨b, 0, none⟩) n c, .int .i64 4, .int .i64 0, .slice fa fl fc] := by
        intro fa fc fl b n c k v hv
        simp only [List.mem_cons, List.not_mem_nil, or_false] at hv
        rcases hv with rfl | rfl | rfl | rfl | rfl | rfl | rfl | rfl | rfl <;> rfl
      repeat (first | refine CW.seq ?_ | refine CW.block ?_ | refine CW.skip ?_ | refine CW.label ?_ | refine CW.exit ?_ | refine CW.condT rfl ?_ | refine CW.condF rfl ?_)
      refine CW.any (A := fun w => Step (Lt.map (·.1)) [] w1 w) (C := fun w => Step (Lt.map (·.1)) [] w1 w) 1000000 24 mixedP rfl ?_
      replace hs := hs.drew
      refine AL.val 0 rfl (by kernel_rfl) rfl (fun w hs => run_move) ?_
      refine AL.val 1 rfl (by kernel_rfl) rfl (fun w hs => run_move) ?_
      refine AL.val 2 rfl (by kernel_rfl) rfl (fun w hs => run_move) ?_
      first | refine AL.val 3 rfl (by kernel_rfl) rfl (fun w hs => run_ixSlN Try.underlying22 ty48 rfl rfl (by omega)) ?_ | refine AL.val 3 rfl (by kernel_rfl) rfl (fun w hs => run_ixSl Try.underlying22 ty48 rfl rfl (by omega)) ?_
      refine AL.val 4 rfl (by kernel_rfl) rfl (fun w hs => run_field (o' := 1) Try.underlying48 rfl ty3 rfl rfl rfl) ?_
      refine AL.val 5 rfl (by kernel_rfl) rfl (fun w hs => run_load1 ty3 rfl ((hax1 hs).cell (j := 1) rfl)) ?_
      refine AL.val 6 rfl (by kernel_rfl) rfl (fun w hs => run_build rfl (bld_num _ _ _)) ?_
      refine AL.val 7 rfl (by kernel_rfl) rfl (fun w hs => run_move) ?_
      refine AL.val 8 rfl (by kernel_rfl) rfl (fun w hs => run_move) ?_
      first | refine AL.val 9 rfl (by kernel_rfl) rfl (fun w hs => run_ixSlN Try.underlying22 ty48 rfl rfl (by omega)) ?_ | refine AL.val 9 rfl (by kernel_rfl) rfl (fun w hs => run_ixSl Try.underlying22 ty48 rfl rfl (by omega)) ?_
      refine AL.val 10 rfl (by kernel_rfl) rfl (fun w hs => run_field (o' := 0) Try.underlying48 rfl ty9 rfl rfl rfl) ?_
      refine AL.val 11 rfl (by kernel_rfl) rfl (fun w hs => run_load1 ty9 rfl ((hax1 hs).cell (j := 0) rfl)) ?_
      refine AL.val 14 rfl (by kernel_rfl) rfl (fun w hs => run_move) ?_
      refine AL.val 15 rfl (by kernel_rfl) rfl (fun w hs => run_move) ?_
      first | refine AL.val 16 rfl (by kernel_rfl) rfl (fun w hs => run_ixSlN Try.underlying22 ty48 rfl rfl (by omega)) ?_ | refine AL.val 16 rfl (by kernel_rfl) rfl (fun w hs => run_ixSl Try.underlying22 ty48 rfl rfl (by omega)) ?_
      refine AL.val 17 rfl (by kernel_rfl) rfl (fun w hs => run_field (o' := 2) Try.underlying48 rfl ty46 rfl rfl rfl) ?_
      refine AL.val 18 rfl (by kernel_rfl) rfl (fun w hs => run_loadN ty46 rfl (show (u8s dg).length = 32 by simpa [u8s] using hok.1) ((hax1 hs).drop 2)) ?_
      refine AL.two 12 19 (by kernel_rfl) rfl rfl (hs.clear) (hs.clear) ?_ ?_
      · refine WL.toBytes Try.underlying9 Try.underlying29 Try.underlying5 rfl rfl hs (fun b35 cap35 more35 w hcap35 hs => ?_)
        refine WL.nil ?_
        refine ⟨rfl, ?_⟩
        refine AL.val 13 rfl (by kernel_rfl) rfl (fun w hs => run_build rfl (bld_bytes _ _ _ _ _)) ?_
        refine AL.one 19 (by kernel_rfl) rfl (hs.clear) (hs.clear) ?_
        refine WL.enter rfl (run_call en42 rfl rfl) (frontR_spec (l := dg) _ hok.1) ?_
        rintro e w ⟨v', Lv', rfl, hv', hq⟩
        refine ⟨_, rfl, ?_⟩
        obtain ⟨fa, fc, rfl⟩ := hv'.form
        replace hs := (hs.call0 hq).front Lv'
        refine WL.nil ?_
        refine ⟨rfl, ?_⟩
        refine AL.val 20 rfl (by kernel_rfl) rfl (fun w hs => run_build rfl (bld_bytes _ _ _ _ _)) ?_
        refine AL.one 21 (by kernel_rfl) rfl (hs.clear) (hs.clear) ?_
        refine WL.buildSlice (cs := [.int .i64 1, .int .i64 kn, .slice none 0 0, .int .i64 5, .int .i64 0, .slice (some ⟨b35, 0, none⟩) nm.length cap35, .int .i64 4, .int .i64 0, .slice fa (frontB dg).length fc]) Try.underlying74 ty73 rfl (by decide) rfl (filled3 _ _ _ _ _ _ _ _ _ _ _ _) rfl hs (fun b44 w hs => ?_)
        refine WL.nil ?_
        refine ⟨rfl, ?_⟩
        refine AL.one 22 (by kernel_rfl) rfl (hs.clear) (hs.clear) ?_
        refine WL.append Try.underlying74 Try.underlying74 ty73 rfl (by decide) rfl rfl (ht) (Step.append_comm (L1 := _ :: _ :: Lv') hs) (.own1 hs rfl) (hc1 fa fc (frontB dg).length b35 nm.length cap35 kn) (by first | omega | (simp only [List.length_append, List.length_cons, List.length_nil]; omega)) rfl (fun v45 Lv45 w hv45 hs => ?_)
        refine WL.nil ?_
        refine ⟨rfl, ?_⟩
        refine AL.val 23 rfl (by kernel_rfl) rfl (fun w hs => run_assign) ?_
        refine AL.end (by kernel_rfl) (hs.clear) (hs.clear) ?_
        repeat (first | refine CW.seq ?_ | refine CW.block ?_ | refine CW.skip ?_ | refine CW.label ?_ | refine CW.exit ?_ | refine CW.condT rfl ?_ | refine CW.condF rfl ?_)
        refine CW.reg ?_
        refine WL.val rfl (run_move) ?_
        refine WL.val rfl (run_add (c := ((k + 1 : Nat) : Int)) rfl rfl (by omega) (by omega)) ?_
        refine WL.val rfl (run_assign) ?_
        refine WL.nil ?_
        have hs1 : Step [] Lv45 w0 w := by
          have := Step.call (L1 := Lt) (L := []) (by rwa [List.append_nil]) hs.dropR
          rwa [List.append_nil] at this
        have hc := hs.append_comm
        repeat (first | refine CW.seq ?_ | refine CW.block ?_ | refine CW.skip ?_ | refine CW.label ?_ | refine CW.exit ?_)
        refine (show _ ∧ _ from ⟨rfl, _, ?_, k + 1, its ++ [⟨1, kn, .slice none 0 0, []⟩, ⟨5, 0, .slice (some ⟨b35, 0, none⟩) nm.length cap35, nm⟩, ⟨4, 0, .slice fa (frontB dg).length fc, frontB dg⟩], _, _, by omega, rfl, ?_, ?_, ?_, hs1, ?_, rfl, rfl, rfl, trivial⟩)
        · omega
        · rw [List.length_append, hil]
          show _ + 3 = _
          omega
        · rw [hfm, List.flatMap_append, hput]
          simp [It.put, entB]
        · have h2 := hv45
          rw [List.length_append, rowsI_append]
          exact h2
        · intro x hx
          rcases List.mem_append.1 hx with hx | hx
          · exact ⟨(hits x hx).1.step hs (hits x hx).2, It.keep (hits x hx).1 (hits x hx).2 hs⟩
          · simp only [List.mem_cons, List.not_mem_nil, or_false] at hx
            rcases hx with rfl | rfl | rfl
            · refine ⟨.inl ⟨rfl, ?_, rfl⟩, .inl rfl⟩
              show kn ≤ _
              omega
            · refine ⟨.inr ⟨.inr rfl, rfl, ?_, .mk (by simp [u8s]) (At.of_blkM (Step.dropL (L1 := Lv45) hs).tail.hd).left⟩, .inr ?_⟩
              · show nm.length ≤ _
                have : nm.length ≤ 64 := hnk
                omega
              · exact hc.disj (b35, _) (List.mem_cons_of_mem _ List.mem_cons_self)
            · refine ⟨.inr ⟨.inl rfl, rfl, ?_, hv'.sl (Step.dropL (L1 := [_, _]) hc)⟩, .inr (hv'.outside fun p hp => hc.disj p (by simp [hp]))⟩
              show (frontB dg).length ≤ _
              have := frontB_len dg
              have : dg.length = 32 := hok.1
              omega
      · refine WL.enter rfl (run_call en42 rfl rfl) (frontR_spec (l := dg) _ hok.1) ?_
        rintro e w ⟨v', Lv', rfl, hv', hq⟩
        refine ⟨_, rfl, ?_⟩
        obtain ⟨fa, fc, rfl⟩ := hv'.form
        replace hs := hs.call0 hq
        refine WL.nil ?_
        refine ⟨rfl, ?_⟩
        refine AL.val 20 rfl (by kernel_rfl) rfl (fun w hs => run_build rfl (bld_bytes _ _ _ _ _)) ?_
        refine AL.one 12 (by kernel_rfl) rfl (hs.clear) (hs.clear) ?_
        refine WL.toBytes Try.underlying9 Try.underlying29 Try.underlying5 rfl rfl hs (fun b35 cap35 more35 w hcap35 hs => ?_)
        refine WL.nil ?_
        refine ⟨rfl, ?_⟩
        refine AL.val 13 rfl (by kernel_rfl) rfl (fun w hs => run_build rfl (bld_bytes _ _ _ _ _)) ?_
        refine AL.one 21 (by kernel_rfl) rfl (hs.clear) (hs.clear) ?_
        refine WL.buildSlice (cs := [.int .i64 1, .int .i64 kn, .slice none 0 0, .int .i64 5, .int .i64 0, .slice (some ⟨b35, 0, none⟩) nm.length cap35, .int .i64 4, .int .i64 0, .slice fa (frontB dg).length fc]) Try.underlying74 ty73 rfl (by decide) rfl (filled3 _ _ _ _ _ _ _ _ _ _ _ _) rfl hs (fun b44 w hs => ?_)
        refine WL.nil ?_
        refine ⟨rfl, ?_⟩
        refine AL.one 22 (by kernel_rfl) rfl (hs.clear) (hs.clear) ?_
        refine WL.append Try.underlying74 Try.underlying74 ty73 rfl (by decide) rfl rfl (ht) (Step.append_comm (L1 := _ :: _ :: Lv') hs) (.own1 hs rfl) (hc1 fa fc (frontB dg).length b35 nm.length cap35 kn) (by first | omega | (simp only [List.length_append, List.length_cons, List.length_nil]; omega)) rfl (fun v45 Lv45 w hv45 hs => ?_)
        refine WL.nil ?_
        refine ⟨rfl, ?_⟩
        refine AL.val 23 rfl (by kernel_rfl) rfl (fun w hs => run_assign) ?_
        refine AL.end (by kernel_rfl) (hs.clear) (hs.clear) ?_
        repeat (first | refine CW.seq ?_ | refine CW.block ?_ | refine CW.skip ?_ | refine CW.label ?_ | refine CW.exit ?_ | refine CW.condT rfl ?_ | refine CW.condF rfl ?_)
        refine CW.reg ?_
        refine WL.val rfl (run_move) ?_
        refine WL.val rfl (run_add (c := ((k + 1 : Nat) : Int)) rfl rfl (by omega) (by omega)) ?_
        refine WL.val rfl (run_assign) ?_
        refine WL.nil ?_
        have hs1 : Step [] Lv45 w0 w := by
          have := Step.call (L1 := Lt) (L := []) (by rwa [List.append_nil]) hs.dropR
          rwa [List.append_nil] at this
        have hc := hs.append_comm
        repeat (first | refine CW.seq ?_ | refine CW.block ?_ | refine CW.skip ?_ | refine CW.label ?_ | refine CW.exit ?_)
        refine (show _ ∧ _ from ⟨rfl, _, ?_, k + 1, its ++ [⟨1, kn, .slice none 0 0, []⟩, ⟨5, 0, .slice (some ⟨b35, 0, none⟩) nm.length cap35, nm⟩, ⟨4, 0, .slice fa (frontB dg).length fc, frontB dg⟩], _, _, by omega, rfl, ?_, ?_, ?_, hs1, ?_, rfl, rfl, rfl, trivial⟩)
        · omega
        · rw [List.length_append, hil]
          show _ + 3 = _
          omega
        · rw [hfm, List.flatMap_append, hput]
          simp [It.put, entB]
        · have h2 := hv45
          rw [List.length_append, rowsI_append]
          exact h2
        · intro x hx
          rcases List.mem_append.1 hx with hx | hx
          · exact ⟨(hits x hx).1.step hs (hits x hx).2, It.keep (hits x hx).1 (hits x hx).2 hs⟩
          · simp only [List.mem_cons, List.not_mem_nil, or_false] at hx
            rcases hx with rfl | rfl | rfl
            · refine ⟨.inl ⟨rfl, ?_, rfl⟩, .inl rfl⟩
              show kn ≤ _
              omega
            · refine ⟨.inr ⟨.inr rfl, rfl, ?_, .mk (by simp [u8s]) (At.of_blkM (Step.dropL (L1 := Lv45) hs).tail.hd).left⟩, .inr ?_⟩
              · show nm.length ≤ _
                have : nm.length ≤ 64 := hnk
                omega
              · exact hc.disj (b35, _) (List.mem_cons_of_mem _ List.mem_cons_self)
            · refine ⟨.inr ⟨.inl rfl, rfl, ?_, hv'.sl (Step.dropL (L1 := [_, _]) hc)⟩, .inr (hv'.outside fun p hp => hc.disj p (by simp [hp]))⟩
              show (frontB dg).length ≤ _
              have := frontB_len dg
              have : dg.length = 32 := hok.1
              omega
    · obtain rfl : k = l.length := by omega
      rw [List.take_length] at hput
      have he : its.flatMap It.put = encB l := hput
      have h1 := formB_len 1
      have h2 := formB_len l.length
      repeat (first | refine CW.seq ?_ | refine CW.block ?_ | refine CW.skip ?_ | refine CW.label ?_ | refine CW.exit ?_ | refine CW.condT rfl ?_ | refine CW.condF rfl ?_)
      refine CW.reg ?_
      refine WL.val rfl (run_move) ?_
      refine WL.enter rfl (run_call en43 rfl rfl) (doneR_spec (l := its) _ (ht.sl (L := []) (by rw [List.append_nil]; exact hs0)) (fun x hx => (hits x hx).1) (by rw [hput]; simp only [List.length_append]; omega) (by omega)) ?_
      rintro e w ⟨v', Lv', rfl, hv', hq2⟩
      refine ⟨_, rfl, ?_⟩
      refine WL.val rfl (run_extract rfl rfl) ?_
      refine WL.val rfl (run_extract rfl rfl) ?_
      refine WL.val rfl (run_assign) ?_
      refine WL.val rfl (run_assign) ?_
      refine WL.nil ?_
      repeat (first | refine CW.seq ?_ | refine CW.block ?_ | refine CW.skip ?_ | refine CW.label ?_ | refine CW.exit ?_ | refine CW.condT rfl ?_ | refine CW.condF rfl ?_)
      refine CW.ret ?_
      refine fin_ret2 rfl ?_
      rw [he] at hv'
      exact ⟨v', Lv', rfl, hv', (Step.call0 hs0 hq2).dropR⟩
end Go.Gx
