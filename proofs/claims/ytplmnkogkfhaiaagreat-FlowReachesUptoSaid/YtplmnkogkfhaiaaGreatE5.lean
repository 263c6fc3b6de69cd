/- The document's side: Encode. Entries of an own slice. Plain words for reading: numbers, bytes. No program in sight. mint's Reader: Fail, take, number, Num, Most, Bytes, Text. mint's Reader: Num, Most, Bytes, Text. node.entry and what reading entries gives. node.Decode's reading function. mint.Read o -/
import Derived.Test.YtplmnkogkfhaiaaGreatE4
import Derived.Test.YtplmnkogkfhaiaaGreatE1
set_option linter.unusedVariables false
set_option linter.unusedSimpArgs false
set_option maxRecDepth 100000
namespace Go.Gx
open Go.Proofs
theorem bld_num (k n : Int) (w : World) : (Instr.build 188 #[(0, .int .i64 k), (1, .int .i64 n)]).run Tryz.prog w = .ok (.agg #[.int .i64 k, .int .i64 n, .slice none 0 0]) w := by kernel_rfl
theorem bld_bytes (k : Int) (a : Option Addr) (m c : Nat) (w : World) : (Instr.build 188 #[(0, .int .i64 k), (2, .slice a m c)]).run Tryz.prog w = .ok (.agg #[.int .i64 k, .int .i64 0, .slice a m c]) w := by kernel_rfl
theorem filled2 (z1 z2 z3 a1 a2 a3 b1 b2 b3 : Value) : Filled 3 2 [z1, z2, z3] [(0, .agg #[a1, a2, a3]), (1, .agg #[b1, b2, b3])] [a1, a2, a3, b1, b2, b3] := by
 simp [Filled, Instr.fill, Value.cells, List.replicate]
theorem filled3 (z1 z2 z3 a1 a2 a3 b1 b2 b3 c1 c2 c3 : Value) : Filled 3 3 [z1, z2, z3] [(0, .agg #[a1, a2, a3]), (1, .agg #[b1, b2, b3]), (2, .agg #[c1, c2, c3])] [a1, a2, a3, b1, b2, b3, c1, c2, c3] := by
 simp [Filled, Instr.fill, Value.cells, List.replicate]
theorem encodeR_bad {v : Value} {l : List Ent} (w0 : World) (hl : Es w0 v l) (hcap : Room v) (hc : checkE l ≠ 0) : Calls Tryz.prog 57 #[v] w0 (Ret0 (.tuple #[.slice none 0 0, .int .i64 (checkE l)]) w0) := by
 have hs : Step [] [] w0 w0 := Step.refl w0
 refine calls (n := 50) Tryz.func57 rfl rfl rfl ?_
 refine sr <| wA <| wA <| wZ <| sr <| wm <| wE rfl (run_call en106 rfl rfl) (checkR_spec rfl _ hl hcap) ?_
 rintro e w ⟨rfl, hq⟩
 refine ⟨_, rfl, ?_⟩
 refine wA <| wZ <| cq <| sr <| wm <| wV (run_bT (run_neq rfl rfl) (by exact hc)) <| wZ <| cT rfl <| sr <| wm <| wA <| wA <| wZ ?_
 refine CW.ret ?_
 refine fin_ret2 rfl ?_
 exact ⟨rfl, hs.callE hq⟩
theorem Wit.keep {S : List Nat} {L1 L2 : List (Nat × Obj)} {w w' : World} {x : Wit} (h : x.ok w) (hS : x.b = [] ∨ Outside x.bv S) (hs : Step S (L1 ++ L2) w w') : x.b = [] ∨ Outside x.bv (L1.map (·.1)) := by
 rcases hS with hS | hS
 ·exact .inl hS
 ·by_cases hb : x.b = []
  ·exact .inl hb
  ·refine .inr ?_
   rcases h with ⟨_, _, h⟩ | ⟨_, _, _, h⟩
   ·rw [h]; trivial
   ·exact Outside.fresh h (by simpa [u8s] using hb) hs hS (fun k hk => by simp only [List.map_append, List.mem_append]; exact .inl hk)
theorem encodeR_ok {v : Value} {l : List Ent} (w0 : World) (hl : Es w0 v l) (hcap : Room v) (hc : checkE l = 0) : Calls Tryz.prog 57 #[v] w0 fun e w' => ∃ v' Lv, e = .returned (.tuple #[v', .int .i64 0]) ∧ OwnSl 5 1 v' (encB l).length (u8s (encB l)) Lv ∧ Step [] Lv w0 w' := by
 have hs : Step [] [] w0 w0 := Step.refl w0
 have hlen : l.length ≤ 1024 := by
  unfold checkE at hc
  split at hc
  ·cases hc
  ·omega
 have herr : errE [] l = 0 := by
  unfold checkE at hc
  rwa [if_neg (by omega)] at hc
 have hall := errE_ok l [] herr
 have hnl : ∀ x ∈ l, x.name.length ≤ 64 := fun x hx => isName_len (hall x hx).2
 have hbl := encB_len hl.2.1 hnl
 obtain ⟨a, c, hv⟩ : ∃ a c, v = .slice a l.length c := by
  rcases hl.cases with ⟨_, c, rfl, rfl⟩ | ⟨b, off, c, rfl, _⟩ <;> exact ⟨_, _, rfl⟩
 subst hv
 refine calls (n := 50) Tryz.func57 rfl rfl rfl ?_
 refine sr <| wA <| wA <| wZ <| sr <| wm <| wE rfl (run_call en106 rfl rfl) (checkR_spec hc _ hl hcap) ?_
 rintro e w ⟨rfl, hq⟩
 refine ⟨_, rfl, ?_⟩
 refine wA <| wZ ?_
 replace hs := hs.callE hq
 refine cq <| sr <| wm <| wV (run_bF (run_neq rfl rfl) (by omega)) <| wZ <| cF rfl <| ck <| sr <| wV (run_build rfl (bld_num _ _ _)) <| wm <| wV (run_lenSl u116 rfl) <| wV (run_build rfl (bld_num _ _ _)) ?_
 refine WL.buildSlice (cs := [.int .i64 1, .int .i64 1, .slice none 0 0, .int .i64 1, .int .i64 l.length, .slice none 0 0]) u190 ty188 rfl (by decide) rfl (filled2 _ _ _ _ _ _ _ _ _) rfl hs (fun b16 w hs => ?_)
 refine wA <| wZ <| cq <| sr <| wA <| wZ <| cB <| CW.loop (fun m f w' => ∃ k its t Lt, k ≤ l.length ∧ m = l.length - k ∧ its.length = 2 + 3 * k ∧ its.flatMap Wit.put = formB 1 ++ formB l.length ++ (l.take k).flatMap entB ∧ OwnSl 188 3 t its.length (rowsI its) Lt ∧ Step [] Lt w0 w' ∧ (∀ x ∈ its, x.ok w' ∧ (x.b = [] ∨ Outside x.bv (Lt.map (·.1)))) ∧ Holds f [(0, .slice a l.length c), (5, t), (6, .int .i64 k)]) (m := l.length) ?_ ?_
 ·refine ⟨0, _, _, _, by omega, by omega, ?_, ?_, .mk (xs := rowsI [⟨1, 1, .slice none 0 0, []⟩, ⟨1, l.length, .slice none 0 0, []⟩]) rfl, hs, ?_, rfl, rfl, rfl, trivial⟩
  ·rfl
  ·simp [Wit.put]
  ·intro x hx
   simp only [List.mem_cons, List.not_mem_nil, or_false] at hx
   rcases hx with rfl | rfl
   ·exact ⟨.inl ⟨rfl, by decide, rfl⟩, .inl rfl⟩
   ·exact ⟨.inl ⟨rfl, by show l.length ≤ _; omega, rfl⟩, .inl rfl⟩
 ·rintro m f w1 ⟨k, its, t, Lt, hk, rfl, hil, hput, ht, hs0, hits, hf⟩
  have ob := hf.chain
  obtain ⟨g, rfl⟩ := ob
  refine cq <| sr <| wm <| wm <| wV (run_lenSl u116 rfl) <| wV (run_lss rfl rfl) <| wZ <| CW.condP rfl (fun h => ?_) (fun h => ?_)
  ·have hlt : k < l.length := by omega
   rcases hl.cases with ⟨_, c', hv', rfl⟩ | ⟨b, off, c', hv', hat⟩
   ·simp at hlt
   obtain ⟨rfl, rfl⟩ : a = some ⟨b, off, none⟩ ∧ c = c' := by cases hv'; exact ⟨rfl, rfl⟩
   have hok := hl.2.1.get hlt
   have hax := hat.ent hl.2.1 hlt
   have hmem := List.getElem_mem hlt
   have hbo : b ∉ Lt.map (·.1) := by
    intro hb
    have ob := List.mem_map.1 hb
    obtain ⟨p, hp, hpb⟩ := ob
    have h1 := hax.lt (by simp [Ent.cells])
    rcases hs0.new p hp with h2 | h2
    ·cases h2
    ·have hpb : p.1 = b := hpb; omega
   have hax1 : ∀ {w : World} {L : List (Nat × Obj)}, Step (Lt.map (·.1)) L w1 w → At w b (off + k * 34) (l[k]).cells := fun hw => (hax.step hs0 (by simp)).step hw hbo
   have hs := hs0.own0
   have hfm : (l.take (k + 1)).flatMap entB = (l.take k).flatMap entB ++ entB l[k] := by rw [List.take_succ_eq_append_getElem hlt, List.flatMap_append]; simp
   have hnk := hnl _ hmem
   have hkd := (hall _ hmem).1
   have hfl := frontB_len (l[k]).dig
   generalize hX : l[k] = x at *
   obtain ⟨nm, kd, dg⟩ := x
   have hkd : kd = 2 ∨ kd = 1 := hkd
   have ob : ∃ kn : Nat, kd = kn := ⟨kd.toNat, by omega⟩
   obtain ⟨kn, rfl⟩ := ob
   have hc1 : ∀ (fa : Option Addr) (fc fl b n c : Nat) (k : Nat), Cells1 [.int .i64 1, .int .i64 k, .slice none 0 0, .int .i64 5, .int .i64 0, .slice (some ⟨b, 0, none⟩) n c, .int .i64 4, .int .i64 0, .slice fa fl fc] := by
    intro fa fc fl b n c k v hv
    simp only [List.mem_cons, List.not_mem_nil, or_false] at hv
    rcases hv with rfl | rfl | rfl | rfl | rfl | rfl | rfl | rfl | rfl <;> rfl
   refine ck <| cq <| cB <| CW.any (A := fun w => Step (Lt.map (·.1)) [] w1 w) (C := fun w => Step (Lt.map (·.1)) [] w1 w) 1000000 24 mixedP rfl ?_
   replace hs := hs.drew
   refine AL.val 0 rfl (by kernel_rfl) rfl (fun w hs => run_move) ?_
   refine AL.val 1 rfl (by kernel_rfl) rfl (fun w hs => run_move) ?_
   refine AL.val 2 rfl (by kernel_rfl) rfl (fun w hs => run_move) ?_
   refine AL.val 3 rfl (by kernel_rfl) rfl (fun w hs => run_ixSlN u116 ty115 rfl rfl (by omega)) ?_
   refine AL.val 4 rfl (by kernel_rfl) rfl (fun w hs => run_field (o' := 1) u115 rfl ty3 rfl rfl rfl) ?_
   refine AL.val 5 rfl (by kernel_rfl) rfl (fun w hs => run_load1 ty3 rfl ((hax1 hs).cell (j := 1) rfl)) ?_
   refine AL.val 6 rfl (by kernel_rfl) rfl (fun w hs => run_build rfl (bld_num _ _ _)) ?_
   refine AL.val 7 rfl (by kernel_rfl) rfl (fun w hs => run_move) ?_
   refine AL.val 8 rfl (by kernel_rfl) rfl (fun w hs => run_move) ?_
   refine AL.val 9 rfl (by kernel_rfl) rfl (fun w hs => run_ixSlN u116 ty115 rfl rfl (by omega)) ?_
   refine AL.val 10 rfl (by kernel_rfl) rfl (fun w hs => run_field (o' := 0) u115 rfl ty9 rfl rfl rfl) ?_
   refine AL.val 11 rfl (by kernel_rfl) rfl (fun w hs => run_load1 ty9 rfl ((hax1 hs).cell (j := 0) rfl)) ?_
   refine AL.val 14 rfl (by kernel_rfl) rfl (fun w hs => run_move) ?_
   refine AL.val 15 rfl (by kernel_rfl) rfl (fun w hs => run_move) ?_
   refine AL.val 16 rfl (by kernel_rfl) rfl (fun w hs => run_ixSlN u116 ty115 rfl rfl (by omega)) ?_
   refine AL.val 17 rfl (by kernel_rfl) rfl (fun w hs => run_field (o' := 2) u115 rfl ty44 rfl rfl rfl) ?_
   refine AL.val 18 rfl (by kernel_rfl) rfl (fun w hs => run_loadN ty44 rfl (show (u8s dg).length = 32 by simpa [u8s] using hok.1) ((hax1 hs).drop 2)) ?_
   refine AL.two 12 19 (by kernel_rfl) rfl rfl (hs.clear) (hs.clear) ?_ ?_
   ·refine WL.toBytes u9 u76 u5 rfl rfl hs (fun b35 cap35 more35 w hcap35 hs => ?_)
    refine wZ <| ⟨rfl, ?_⟩
    refine AL.val 13 rfl (by kernel_rfl) rfl (fun w hs => run_build rfl (bld_bytes _ _ _ _ _)) ?_
    refine AL.one 19 (by kernel_rfl) rfl (hs.clear) (hs.clear) ?_
    refine wE rfl (run_call en107 rfl rfl) (frontR_spec (l := dg) _ hok.1) ?_
    rintro e w ⟨v', Lv', rfl, hv', hq⟩
    refine ⟨_, rfl, ?_⟩
    obtain ⟨fa, fc, rfl⟩ := hv'.form
    replace hs := (hs.call0 hq).front Lv'
    refine wZ <| ⟨rfl, ?_⟩
    refine AL.val 20 rfl (by kernel_rfl) rfl (fun w hs => run_build rfl (bld_bytes _ _ _ _ _)) ?_
    refine AL.one 21 (by kernel_rfl) rfl (hs.clear) (hs.clear) ?_
    refine WL.buildSlice (cs := [.int .i64 1, .int .i64 kn, .slice none 0 0, .int .i64 5, .int .i64 0, .slice (some ⟨b35, 0, none⟩) nm.length cap35, .int .i64 4, .int .i64 0, .slice fa (frontB dg).length fc]) u190 ty188 rfl (by decide) rfl (filled3 _ _ _ _ _ _ _ _ _ _ _ _) rfl hs (fun b44 w hs => ?_)
    refine wZ <| ⟨rfl, ?_⟩
    refine AL.one 22 (by kernel_rfl) rfl (hs.clear) (hs.clear) ?_
    refine WL.append u190 u190 ty188 rfl (by decide) rfl rfl (ht) (Step.append_comm (L1 := _ :: _ :: Lv') hs) (.own1 hs rfl) (hc1 fa fc (frontB dg).length b35 nm.length cap35 kn) (by first | omega | (simp only [List.length_append, List.length_cons, List.length_nil]; omega)) rfl (fun v45 Lv45 w hv45 hs => ?_)
    refine wZ <| ⟨rfl, ?_⟩
    refine AL.val 23 rfl (by kernel_rfl) rfl (fun w hs => run_assign) ?_
    refine AL.end (by kernel_rfl) (hs.clear) (hs.clear) ?_
    refine cr <| wm <| wV (run_add (c := ((k + 1 : Nat) : Int)) rfl rfl (by omega) (by omega)) <| wA <| wZ ?_
    have hs1 : Step [] Lv45 w0 w := by
     have := Step.call (L1 := Lt) (L := []) (by rwa [List.append_nil]) hs.dropR
     rwa [List.append_nil] at this
    have hc := hs.append_comm
    refine (show _ ∧ _ from ⟨rfl, _, ?_, k + 1, its ++ [⟨1, kn, .slice none 0 0, []⟩, ⟨5, 0, .slice (some ⟨b35, 0, none⟩) nm.length cap35, nm⟩, ⟨4, 0, .slice fa (frontB dg).length fc, frontB dg⟩], _, _, by omega, rfl, ?_, ?_, ?_, hs1, ?_, rfl, rfl, rfl, trivial⟩)
    ·omega
    ·rw [List.length_append, hil]
     show _ + 3 = _
     omega
    ·rw [hfm, List.flatMap_append, hput]
     simp [Wit.put, entB]
    ·have h2 := hv45
     rw [List.length_append, rowsI_append]
     exact h2
    ·intro x hx
     rcases List.mem_append.1 hx with hx | hx
     ·exact ⟨(hits x hx).1.step hs (hits x hx).2, Wit.keep (hits x hx).1 (hits x hx).2 hs⟩
     ·simp only [List.mem_cons, List.not_mem_nil, or_false] at hx
      rcases hx with rfl | rfl | rfl
      ·refine ⟨.inl ⟨rfl, ?_, rfl⟩, .inl rfl⟩
       show kn ≤ _
       omega
      ·refine ⟨.inr ⟨.inr rfl, rfl, ?_, .mk (by simp [u8s]) (At.of_blkM (Step.dropL (L1 := Lv45) hs).tail.hd).left⟩, .inr ?_⟩
       ·show nm.length ≤ _
        have : nm.length ≤ 64 := hnk
        omega
       ·exact hc.disj (b35, _) (List.mem_cons_of_mem _ List.mem_cons_self)
      ·refine ⟨.inr ⟨.inl rfl, rfl, ?_, hv'.sl (Step.dropL (L1 := [_, _]) hc)⟩, .inr (hv'.outside fun p hp => hc.disj p (by simp [hp]))⟩
       show (frontB dg).length ≤ _
       have := frontB_len dg
       have : dg.length = 32 := hok.1
       omega
   ·refine wE rfl (run_call en107 rfl rfl) (frontR_spec (l := dg) _ hok.1) ?_
    rintro e w ⟨v', Lv', rfl, hv', hq⟩
    refine ⟨_, rfl, ?_⟩
    obtain ⟨fa, fc, rfl⟩ := hv'.form
    replace hs := hs.call0 hq
    refine wZ <| ⟨rfl, ?_⟩
    refine AL.val 20 rfl (by kernel_rfl) rfl (fun w hs => run_build rfl (bld_bytes _ _ _ _ _)) ?_
    refine AL.one 12 (by kernel_rfl) rfl (hs.clear) (hs.clear) ?_
    refine WL.toBytes u9 u76 u5 rfl rfl hs (fun b35 cap35 more35 w hcap35 hs => ?_)
    refine wZ <| ⟨rfl, ?_⟩
    refine AL.val 13 rfl (by kernel_rfl) rfl (fun w hs => run_build rfl (bld_bytes _ _ _ _ _)) ?_
    refine AL.one 21 (by kernel_rfl) rfl (hs.clear) (hs.clear) ?_
    refine WL.buildSlice (cs := [.int .i64 1, .int .i64 kn, .slice none 0 0, .int .i64 5, .int .i64 0, .slice (some ⟨b35, 0, none⟩) nm.length cap35, .int .i64 4, .int .i64 0, .slice fa (frontB dg).length fc]) u190 ty188 rfl (by decide) rfl (filled3 _ _ _ _ _ _ _ _ _ _ _ _) rfl hs (fun b44 w hs => ?_)
    refine wZ <| ⟨rfl, ?_⟩
    refine AL.one 22 (by kernel_rfl) rfl (hs.clear) (hs.clear) ?_
    refine WL.append u190 u190 ty188 rfl (by decide) rfl rfl (ht) (Step.append_comm (L1 := _ :: _ :: Lv') hs) (.own1 hs rfl) (hc1 fa fc (frontB dg).length b35 nm.length cap35 kn) (by first | omega | (simp only [List.length_append, List.length_cons, List.length_nil]; omega)) rfl (fun v45 Lv45 w hv45 hs => ?_)
    refine wZ <| ⟨rfl, ?_⟩
    refine AL.val 23 rfl (by kernel_rfl) rfl (fun w hs => run_assign) ?_
    refine AL.end (by kernel_rfl) (hs.clear) (hs.clear) ?_
    refine cr <| wm <| wV (run_add (c := ((k + 1 : Nat) : Int)) rfl rfl (by omega) (by omega)) <| wA <| wZ ?_
    have hs1 : Step [] Lv45 w0 w := by
     have := Step.call (L1 := Lt) (L := []) (by rwa [List.append_nil]) hs.dropR
     rwa [List.append_nil] at this
    have hc := hs.append_comm
    refine (show _ ∧ _ from ⟨rfl, _, ?_, k + 1, its ++ [⟨1, kn, .slice none 0 0, []⟩, ⟨5, 0, .slice (some ⟨b35, 0, none⟩) nm.length cap35, nm⟩, ⟨4, 0, .slice fa (frontB dg).length fc, frontB dg⟩], _, _, by omega, rfl, ?_, ?_, ?_, hs1, ?_, rfl, rfl, rfl, trivial⟩)
    ·omega
    ·rw [List.length_append, hil]
     show _ + 3 = _
     omega
    ·rw [hfm, List.flatMap_append, hput]
     simp [Wit.put, entB]
    ·have h2 := hv45
     rw [List.length_append, rowsI_append]
     exact h2
    ·intro x hx
     rcases List.mem_append.1 hx with hx | hx
     ·exact ⟨(hits x hx).1.step hs (hits x hx).2, Wit.keep (hits x hx).1 (hits x hx).2 hs⟩
     ·simp only [List.mem_cons, List.not_mem_nil, or_false] at hx
      rcases hx with rfl | rfl | rfl
      ·refine ⟨.inl ⟨rfl, ?_, rfl⟩, .inl rfl⟩
       show kn ≤ _
       omega
      ·refine ⟨.inr ⟨.inr rfl, rfl, ?_, .mk (by simp [u8s]) (At.of_blkM (Step.dropL (L1 := Lv45) hs).tail.hd).left⟩, .inr ?_⟩
       ·show nm.length ≤ _
        have : nm.length ≤ 64 := hnk
        omega
       ·exact hc.disj (b35, _) (List.mem_cons_of_mem _ List.mem_cons_self)
      ·refine ⟨.inr ⟨.inl rfl, rfl, ?_, hv'.sl (Step.dropL (L1 := [_, _]) hc)⟩, .inr (hv'.outside fun p hp => hc.disj p (by simp [hp]))⟩
       show (frontB dg).length ≤ _
       have := frontB_len dg
       have : dg.length = 32 := hok.1
       omega
  ·obtain rfl : k = l.length := by omega
   rw [List.take_length] at hput
   have he : its.flatMap Wit.put = encB l := hput
   have h1 := formB_len 1
   have h2 := formB_len l.length
   refine CW.exit <| sr <| wm <| wE rfl (run_call en101 rfl rfl) (doneR_spec (l := its) _ (ht.sl (L := []) (by rw [List.append_nil]; exact hs0)) (fun x hx => (hits x hx).1) (by rw [hput]; simp only [List.length_append]; omega) (by omega)) ?_
   rintro e w ⟨v', Lv', rfl, hv', hq2⟩
   refine ⟨_, rfl, ?_⟩
   refine wx rfl rfl <| wx rfl rfl <| wA <| wA <| wZ <| CW.ret ?_
   refine fin_ret2 rfl ?_
   rw [he] at hv'
   exact ⟨v', Lv', rfl, hv', (Step.call0 hs0 hq2).dropR⟩
theorem OwnSl.es {E : TypeId} {v : Value} {l : List Ent} {Lv L : List (Nat × Obj)} {S : List Nat} {w0 w : World} (h : OwnSl E 34 v l.length (rows l) Lv) (ho : Oks l) (hl : l.length ≤ 9223372036854775807) (hs : Step S (Lv ++ L) w0 w) : Es w v l := ⟨h.sl hs, ho, hl⟩
end Go.Gx
namespace Go.Gx
def beVal (l : List UInt8) : Nat := l.foldl (fun u c => u * 256 + c.toNat) 0
def numberP (bs : List UInt8) (p : Nat) : Except Int (Nat × Nat) :=
 if bs.length ≤ p then .error 11
 else if (bs.getD p 0).toNat < 248 then .ok ((bs.getD p 0).toNat, p + 1)
 else if bs.length < p + 1 + ((bs.getD p 0).toNat - 247) then .error 11
 else if bs.getD (p + 1) 0 = 0 ∨ beVal ((bs.drop (p + 1)).take ((bs.getD p 0).toNat - 247)) < 248 then .error 12
 else .ok (beVal ((bs.drop (p + 1)).take ((bs.getD p 0).toNat - 247)), p + 1 + ((bs.getD p 0).toNat - 247))
def numP (bs : List UInt8) (p : Nat) : Except Int (Nat × Nat) :=
 match numberP bs p with
 | .error e => .error e
 | .ok (u, q) => if 9223372036854775808 ≤ u then .error 12 else .ok (u, q)
def bytesP (bs : List UInt8) (p : Nat) : Except Int (List UInt8 × Nat) :=
 match numP bs p with
 | .error e => .error e
 | .ok (n, q) => if bs.length < q + n then .error 11 else .ok ((bs.drop q).take n, q + n)
def mostP (m : Nat) (bs : List UInt8) (p : Nat) : Except Int (Nat × Nat) :=
 match numP bs p with
 | .error e => .error e
 | .ok (n, q) => if m < n then .error 2 else .ok (n, q)
theorem beVal_append (l : List UInt8) (c : UInt8) : beVal (l ++ [c]) = beVal l * 256 + c.toNat := by simp [beVal]
theorem beVal_lt (l : List UInt8) : beVal l < 256 ^ l.length := by
 have : ∀ n (l : List UInt8), l.length = n → beVal l < 256 ^ n := by
  intro n
  induction n with
  | zero => intro l hl; rw [List.eq_nil_of_length_eq_zero hl]; decide
  | succ n ih =>
   intro l hl
   have hne : l ≠ [] := fun e => by rw [e] at hl; cases hl
   rw [← List.dropLast_concat_getLast hne, beVal_append]
   have h1 := ih l.dropLast (by rw [List.length_dropLast]; omega)
   have h2 := (l.getLast hne).toNat_lt
   rw [Nat.pow_succ]
   omega
 exact this _ l rfl
theorem numberP_ok {bs : List UInt8} {p u q : Nat} (h : numberP bs p = .ok (u, q)) : q ≤ bs.length ∧ p < q ∧ u < 18446744073709551616 := by
 unfold numberP at h
 have hc := (bs.getD p 0).toNat_lt
 split at h
 ·cases h
 split at h
 ·injection h with h; injection h with h1 h2; omega
 split at h
 ·cases h
 split at h
 ·cases h
 ·injection h with h; injection h with h1 h2
  have h3 := beVal_lt ((bs.drop (p + 1)).take ((bs.getD p 0).toNat - 247))
  have h4 : ((bs.drop (p + 1)).take ((bs.getD p 0).toNat - 247)).length ≤ 8 := by rw [List.length_take]; exact Nat.le_trans (Nat.min_le_left _ _) (by omega)
  have h5 : 256 ^ ((bs.drop (p + 1)).take ((bs.getD p 0).toNat - 247)).length ≤ 256 ^ 8 := Nat.pow_le_pow_right (by decide) h4
  have h6 : (256 : Nat) ^ 8 = 18446744073709551616 := by decide
  omega
theorem numP_ok {bs : List UInt8} {p u q : Nat} (h : numP bs p = .ok (u, q)) : q ≤ bs.length ∧ p < q ∧ u < 9223372036854775808 := by
 unfold numP at h
 split at h
 ·cases h
 ·rename_i h1
  have := numberP_ok h1
  split at h
  ·cases h
  ·injection h with h; injection h with h2 h3; omega
theorem bytesP_ok {bs s : List UInt8} {p q : Nat} (h : bytesP bs p = .ok (s, q)) : q ≤ bs.length ∧ p < q := by
 unfold bytesP at h
 split at h
 ·cases h
 ·rename_i h1
  have := numP_ok h1
  split at h
  ·cases h
  ·injection h with h; injection h with h2 h3; omega
theorem mostP_ok {bs : List UInt8} {m p u q : Nat} (h : mostP m bs p = .ok (u, q)) : q ≤ bs.length ∧ p < q ∧ u ≤ m := by
 unfold mostP at h
 split at h
 ·cases h
 ·rename_i h1
  have := numP_ok h1
  split at h
  ·cases h
  ·injection h with h; injection h with h2 h3; omega
def errs : List Int := [2, 11, 12]
theorem numberP_err {bs : List UInt8} {p : Nat} {e : Int} (h : numberP bs p = .error e) : e = 11 ∨ e = 12 := by
 unfold numberP at h
 split at h
 ·injection h with h; exact .inl h.symm
 split at h
 ·cases h
 split at h
 ·injection h with h; exact .inl h.symm
 split at h
 ·injection h with h; exact .inr h.symm
 ·cases h
theorem numP_err {bs : List UInt8} {p : Nat} {e : Int} (h : numP bs p = .error e) : e = 11 ∨ e = 12 := by
 unfold numP at h
 split at h
 ·rename_i h1; injection h with h; subst h; exact numberP_err h1
 ·split at h
  ·injection h with h; exact .inr h.symm
  ·cases h
end Go.Gx
namespace Go.Gx
open Go.Proofs
def RdB (b : Nat) (bv : Value) (p : Nat) : Nat × Obj := (b, blk 266 [bv, .int .i64 p, .bool false, .int .i64 0])
def RF (b : Nat) (bv : Value) (p : Nat) (e : Int) : Nat × Obj := (b, blk 266 [bv, .int .i64 p, .bool true, .int .i64 e])
def pv (b : Nat) : Value := .iface 268 (.agg #[.pointer (some ⟨b, 0, none⟩)])
def pch (b : Nat) : List PanicEntry := [{ v := pv b, recovered := false }]
structure RdOk (w : World) (b : Nat) (bs : List UInt8) (bv : Value) (p : Nat) : Prop where
 own : Step [b] [RdB b bv p] w w
 sl : Sl w 1 bv bs.length (u8s bs)
 out : Outside bv [b]
 room : Room bv
 len : bs.length ≤ 1048576
def Thrown (b : Nat) (bv : Value) (er : Int) (w0 : World) : Ending → World → Prop := fun e w' => ∃ p, e = .panicked (pch b) ∧ Step [b] [RF b bv p er] w0 w'
theorem RdOk.next {w w' : World} {b p q : Nat} {bs : List UInt8} {bv : Value} {L : List (Nat × Obj)} (h : RdOk w b bs bv p) (hs : Step [b] (RdB b bv q :: L) w w') : RdOk w' b bs bv q :=
 ⟨Step.own (L1 := [_]) hs, h.sl.step hs h.out, h.out, h.room, h.len⟩
theorem fail_none {b p : Nat} {bs : List UInt8} {bv : Value} (w0 : World) (h : RdOk w0 b bs bv p) : Calls Tryz.prog 127 #[.pointer (some ⟨b, 0, none⟩), .int .i64 0] w0 fun e w' => e = .returned (.tuple #[]) ∧ Step [b] [RdB b bv p] w0 w' := by
 have hs := h.own
 unfold RdB at hs
 refine calls (n := 23) Tryz.func127 rfl rfl rfl ?_
 refine sr <| wm <| wn rfl <| wF 2 u266 rfl ty4 rfl <| wl ty4 rfl (hs.c0 rfl) <| wV (run_not rfl) <| wm <| wy <| wm <| wy <| wV (run_bF (run_neq rfl rfl) (by decide)) <| wV (run_pickT rfl) <| wZ ?_
 refine cF rfl <| ck <| fin_end0 rfl ?_
 exact ⟨rfl, hs⟩
theorem bld_ended (b : Nat) (w : World) : (Instr.build 268 #[(0, .pointer (some ⟨b, 0, none⟩))]).run Tryz.prog w = .ok (.agg #[.pointer (some ⟨b, 0, none⟩)]) w := by kernel_rfl
theorem fail_throw {b p : Nat} {bs : List UInt8} {bv : Value} {er : Int} (w0 : World) (h : RdOk w0 b bs bv p) (he : er ≠ 0) : Calls Tryz.prog 127 #[.pointer (some ⟨b, 0, none⟩), .int .i64 er] w0 (Thrown b bv er w0) := by
 have hs := h.own
 unfold RdB at hs
 refine calls (n := 23) Tryz.func127 rfl rfl rfl ?_
 refine sr <| wm <| wn rfl <| wF 2 u266 rfl ty4 rfl <| wl ty4 rfl (hs.c0 rfl) <| wV (run_not rfl) <| wm <| wy <| wm <| wy <| wV (run_bT (run_neq rfl rfl) (by exact he)) <| wV (run_pickT rfl) <| wZ ?_
 refine cT rfl <| sr <| wm <| wm <| wm <| wn rfl <| wF 2 u266 rfl ty4 rfl <| ws1 ty4 rfl rfl (rfl) (hs) (fun w hs => ?_)
 refine wn rfl <| wF 3 u266 rfl ty36 rfl <| ws1 ty36 rfl rfl (rfl) (hs) (fun w hs => ?_)
 refine wZ <| cr <| wm <| wV (run_build rfl (bld_ended _ _)) <| wV (run_mkIface u268 rfl) <| WL.panic (run_panicI rfl) ?_
 exact fin_panic ⟨p, rfl, hs⟩
theorem RdOk.form {w : World} {b p : Nat} {bs : List UInt8} {bv : Value} (h : RdOk w b bs bv p) : ∃ a c, bv = .slice a bs.length c := by
 have ob := h.sl
 obtain ⟨_, ⟨_, c, rfl, h0⟩ | ⟨bb, off, c, rfl, _⟩⟩ := ob
 ·exact ⟨_, _, by rw [h0]⟩
 ·exact ⟨_, _, rfl⟩
theorem take_ok {b p k : Nat} {bs : List UInt8} {bv : Value} (w0 : World) (h : RdOk w0 b bs bv p) (hk : p + k ≤ bs.length) (hne : 0 < bs.length) : Calls Tryz.prog 178 #[.pointer (some ⟨b, 0, none⟩), .int .i64 k] w0 fun e w' => ∃ a c, e = .returned (.slice a k c) ∧ Sl w' 1 (.slice a k c) k (u8s ((bs.drop p).take k)) ∧ Outside (.slice a k c) [b] ∧ Step [b] [RdB b bv (p + k)] w0 w' := by
 have hs := h.own
 unfold RdB at hs
 have hlen := h.len
 have ob := id h.sl
 obtain ⟨_, ⟨_, c, rfl, h0⟩ | ⟨bb, off, c, rfl, hat⟩⟩ := ob
 ·omega
 have hc : bs.length ≤ c := h.room
 have hbb : bb ∉ [b] := h.out
 have hcut : cutSl 1 bb off p (p + k) c = .slice (some ⟨bb, if c = p then off else off + p * 1, none⟩) k (c - p) := by
  rw [cutSl, show p + k - p = k by omega]
 refine calls (n := 44) Tryz.func178 rfl rfl rfl ?_
 refine sr <| wA <| wZ <| cq <| cq <| CW.quiet mixedP (by kernel_rfl) hs ?_
 refine qm <| qm <| qn rfl <| qF 0 u266 rfl ty76 rfl <| qV (fun w hs => run_load1 ty76 rfl (hs.c0 rfl)) <| qV (fun w hs => run_lenSl u76 rfl) <| qm <| qn rfl <| qF 1 u266 rfl ty3 rfl <| qV (fun w hs => run_load1 ty3 rfl (hs.c0 rfl)) <| qV (fun w hs => run_sub rfl rfl rfl (by omega)) <| qV (fun w hs => run_bF (run_gtr rfl rfl) (by omega)) <| QL.nil (fun w hs => ?_)
 refine cF rfl <| ck <| cq <| CW.quiet mixedP (by kernel_rfl) hs ?_
 refine qm <| qn rfl <| qF 0 u266 rfl ty76 rfl <| qV (fun w hs => run_load1 ty76 rfl (hs.c0 rfl)) <| qm <| qn rfl <| qF 1 u266 rfl ty3 rfl <| qV (fun w hs => run_load1 ty3 rfl (hs.c0 rfl)) <| qm <| qn rfl <| qF 1 u266 rfl ty3 rfl <| qV (fun w hs => run_load1 ty3 rfl (hs.c0 rfl)) <| qm <| qV (fun w hs => run_add (c := ((p + k : Nat) : Int)) rfl rfl (by omega) (by omega)) ?_
 refine qV (fun w hs => run_sliceSlE (lo := p) (hi := p + k) (m := c) u76 ty5 rfl rfl rfl rfl (by simp) (by omega) (by omega) (by omega) hcut) <| qV (fun w hs => run_assign) <| QL.nil (fun w hs => ?_)
 refine sr <| wm <| wn rfl <| wF 1 u266 rfl ty3 rfl <| wl ty3 rfl (hs.c0 rfl) <| wm <| wV (run_add (c := ((p + k : Nat) : Int)) rfl rfl (by omega) (by omega)) <| wn rfl <| wF 1 u266 rfl ty3 rfl <| ws1 ty3 rfl rfl (rfl) (hs) (fun w hs => ?_)
 refine wZ <| sr <| wm <| wA <| wZ <| CW.ret ?_
 refine fin_ret1 rfl ?_
 refine ⟨_, _, rfl, ?_, hbb, hs⟩
 refine .mk (by simp [u8s]; omega) ?_
 have hat' := hat.step hs hbb
 split
 ·rename_i hm
  obtain rfl : k = 0 := by omega
  exact At.nil
 ·have := (hat'.drop p).take k
  rw [Nat.mul_one]
  simpa [u8s, List.map_drop, List.map_take] using this
theorem take_err {b p k : Nat} {bs : List UInt8} {bv : Value} (w0 : World) (h : RdOk w0 b bs bv p) (hp : p ≤ bs.length) (hk : bs.length < p + k) (hkb : k ≤ 9223372036854775807) : Calls Tryz.prog 178 #[.pointer (some ⟨b, 0, none⟩), .int .i64 k] w0 (Thrown b bv 11 w0) := by
 have ob := h.form
 obtain ⟨a, c, rfl⟩ := ob
 have hs := h.own
 unfold RdB at hs
 have hlen := h.len
 refine calls (n := 44) Tryz.func178 rfl rfl rfl ?_
 refine sr <| wA <| wZ <| cq <| cq <| CW.quiet mixedP (by kernel_rfl) hs ?_
 refine qm <| qm <| qn rfl <| qF 0 u266 rfl ty76 rfl <| qV (fun w hs => run_load1 ty76 rfl (hs.c0 rfl)) <| qV (fun w hs => run_lenSl u76 rfl) <| qm <| qn rfl <| qF 1 u266 rfl ty3 rfl <| qV (fun w hs => run_load1 ty3 rfl (hs.c0 rfl)) <| qV (fun w hs => run_sub rfl rfl rfl (by omega)) <| qV (fun w hs => run_bT (run_gtr rfl rfl) (by omega)) <| QL.nil (fun w hs => ?_)
 refine cT rfl <| cr <| wm <| WL.enterX (run_call en127 rfl rfl) (fail_throw (bs := bs) (er := 11) _ (h.next hs) (by decide)) ?_
 rintro e w ⟨p', rfl, hq⟩
 refine ⟨_, rfl, ?_⟩
 exact fin_panic ⟨p', rfl, Step.call (L1 := [RdB b _ p]) hs hq⟩
section
variable {P : Program} {f : Slots} {w : World} {d : Option Tmp} {ty : TypeId} {pos : String} {af : Array Edge} {x y : Operand} {T T' : TypeId}
theorem wrap_u64 {a : Nat} (h : a < 18446744073709551616) : IntKind.u64.wrap (a : Int) = a := by
 have e : (2 : Int) ^ IntKind.u64.bits = 18446744073709551616 := by decide
 simp only [IntKind.wrap, IntKind.signed, Bool.false_and, Bool.false_eq_true, if_false, e]
 omega
theorem run_shl8 {a : Nat} {k : IntKind} (hx : ev f x = .int .u64 a) (hy : ev f y = .int k 8) (ha : a < 72057594037927936) :
  (execOp (ev f) ⟨d, .binOp .shl T x y T', ty, pos, af, none⟩).run P w = .ok (.value (.int .u64 (a * 256 : Nat))) w := by
 rw [run_shl hx hy (by decide)]
 have e : (2 : Int) ^ min (8 : Int).toNat IntKind.u64.bits = 256 := by decide
 rw [e, show (a : Int) * 256 = ((a * 256 : Nat) : Int) by simp, wrap_u64 (by omega)]
theorem run_orB {a c : Nat} (hx : ev f x = .int .u64 (a * 256 : Nat)) (hy : ev f y = .int .u64 c) (ha : a < 72057594037927936) (hc : c < 256) :
  (execOp (ev f) ⟨d, .binOp .or T x y T', ty, pos, af, none⟩).run P w = .ok (.value (.int .u64 (a * 256 + c : Nat))) w := by
 have e1 : (BitVec.ofInt IntKind.u64.bits ((a * 256 : Nat) : Int) ||| BitVec.ofInt IntKind.u64.bits (c : Int)).toNat = a * 256 + c := by
  rw [BitVec.ofInt_natCast, BitVec.ofInt_natCast, BitVec.toNat_or, BitVec.toNat_ofNat, BitVec.toNat_ofNat]
  have h64 : 2 ^ IntKind.u64.bits = 18446744073709551616 := by decide
  rw [h64, Nat.mod_eq_of_lt (by omega), Nat.mod_eq_of_lt (by omega)]
  have := Nat.two_pow_add_eq_or_of_lt (b := c) (i := 8) (by omega) a
  rw [Nat.mul_comm a 256]
  exact this.symm
 simp only [execOp, hx, hy, Sem.run_bind]
 have hg : (eqGuard .or T x y (.int .u64 (a * 256 : Nat)) (.int .u64 c)).run P w = .ok () w := by simp [eqGuard]
 simp only [hg, Result.andThen_ok, binOp, Op.intBits, e1]
 rw [wrap_u64 (by omega)]
 simp
end
def NumR (b : Nat) (bv : Value) (w0 : World) (k : Nat → Value) : Except Int (Nat × Nat) → Ending → World → Prop
 | .ok (u, q), e, w' => e = .returned (k u) ∧ Step [b] [RdB b bv q] w0 w'
 | .error er, e, w' => Thrown b bv er w0 e w'
theorem NumR.ok {b : Nat} {bv : Value} {w0 w' : World} {k : Nat → Value} {e : Ending} {r : Except Int (Nat × Nat)} {u q : Nat} (hr : r = .ok (u, q)) (he : e = .returned (k u)) (hs : Step [b] [RdB b bv q] w0 w') : NumR b bv w0 k r e w' := by subst hr; exact ⟨he, hs⟩
theorem NumR.err {b : Nat} {bv : Value} {w0 w' : World} {k : Nat → Value} {ed : Ending} {r : Except Int (Nat × Nat)} {er : Int} (hr : r = .error er) (h : Thrown b bv er w0 ed w') : NumR b bv w0 k r ed w' := by subst hr; exact h
theorem Thrown.on {b p : Nat} {bv : Value} {er : Int} {w0 w w' : World} {L : List (Nat × Obj)} {e : Ending} (hs : Step [b] (RdB b bv p :: L) w0 w) (h : Thrown b bv er w e w') : Thrown b bv er w0 e w' := by
 obtain ⟨p', he, h⟩ := h
 exact ⟨p', he, (Step.call (L1 := [RdB b bv p]) (L := L) hs h).dropR⟩
theorem number_spec {b p : Nat} {bs : List UInt8} {bv : Value} (w0 : World) (h : RdOk w0 b bs bv p) (hpl : p ≤ bs.length) : Calls Tryz.prog 160 #[.pointer (some ⟨b, 0, none⟩)] w0 (NumR b bv w0 (fun u => .int .u64 u) (numberP bs p)) := by
 have hs := h.own
 have hlen := h.len
 by_cases hp : bs.length ≤ p
 ·have e : numberP bs p = .error 11 := by unfold numberP; rw [if_pos hp]
  refine calls (n := 48) Tryz.func160 rfl rfl rfl ?_
  refine sr <| wA <| wZ <| sr <| wm <| WL.enterX (run_call en178 rfl rfl) (take_err (bs := bs) (k := 1) _ h hpl (by omega) (by omega)) ?_
  rintro e w ⟨p', rfl, hq⟩
  refine ⟨_, rfl, ?_⟩
  exact fin_panic (.err e ⟨p', rfl, hq⟩)
 ·have hp' : p < bs.length := by omega
  have hg := getD_of hp'
  have hcl := (bs[p]).toNat_lt
  have hd1 : (bs.drop p).take 1 = [bs[p]] := by rw [List.drop_eq_getElem_cons hp']; rfl
  by_cases hc : (bs[p]).toNat < 248
  ·have e : numberP bs p = .ok ((bs[p]).toNat, p + 1) := by unfold numberP; rw [if_neg hp, hg, if_pos hc]
   refine calls (n := 48) Tryz.func160 rfl rfl rfl ?_
   refine sr <| wA <| wZ <| sr <| wm <| wE rfl (run_call en178 rfl rfl) (take_ok (bs := bs) (k := 1) _ h (by omega) (by omega)) ?_
   rintro e w ⟨a, c, rfl, hsl, ho, hq⟩
   refine ⟨_, rfl, ?_⟩
   refine wA <| wZ ?_
   rw [hd1] at hsl
   have ob := cell_u8 (i := 0) hsl (by simp)
   obtain ⟨bk, off, rfl, hcell⟩ := ob
   simp only [List.getElem_cons_zero] at hcell
   refine cq <| sr <| wm <| wV (run_ixSlN (i := 0) u76 ty5 rfl rfl (by omega)) <| wl ty5 rfl (hcell) <| wV (run_bT (run_lss rfl rfl) (by omega)) <| wZ <| cT rfl <| sr <| wm <| wV (run_ixSlN (i := 0) u76 ty5 rfl rfl (by omega)) <| wl ty5 rfl (hcell) <| wV (run_convU64 u5 u240 rfl (by omega)) <| wA <| wZ ?_
   refine CW.ret ?_
   refine fin_ret1 rfl ?_
   exact .ok e rfl hq
  ·have ob : ∃ k, (bs[p]).toNat - 247 = k := ⟨_, rfl⟩
   obtain ⟨k, hk⟩ := ob
   have hk1 : 1 ≤ k ∧ k ≤ 8 := by omega
   by_cases hk2 : bs.length < p + 1 + k
   ·have e : numberP bs p = .error 11 := by unfold numberP; rw [if_neg hp, hg, if_neg hc, hk, if_pos hk2]
    refine calls (n := 48) Tryz.func160 rfl rfl rfl ?_
    refine sr <| wA <| wZ <| sr <| wm <| wE rfl (run_call en178 rfl rfl) (take_ok (bs := bs) (k := 1) _ h (by omega) (by omega)) ?_
    rintro e w ⟨a, c, rfl, hsl, ho, hq⟩
    refine ⟨_, rfl, ?_⟩
    refine wA <| wZ ?_
    rw [hd1] at hsl
    have ob := cell_u8 (i := 0) hsl (by simp)
    obtain ⟨bk, off, rfl, hcell⟩ := ob
    simp only [List.getElem_cons_zero] at hcell
    refine cq <| sr <| wm <| wV (run_ixSlN (i := 0) u76 ty5 rfl rfl (by omega)) <| wl ty5 rfl (hcell) <| wV (run_bF (run_lss rfl rfl) (by omega)) <| wZ <| cF rfl <| ck <| sr <| wm <| wm <| wV (run_ixSlN (i := 0) u76 ty5 rfl rfl (by omega)) <| wl ty5 rfl (hcell) <| wV (run_convI64 u5 u3 rfl (by omega)) <| wV (run_sub (c := (k : Int)) rfl rfl (by omega) (by omega)) ?_
    refine WL.enterX (run_call en178 rfl rfl) (take_err (bs := bs) (k := k) _ (h.next hq) (by omega) (by omega) (by omega)) ?_
    rintro e w ⟨p', rfl, hq2⟩
    refine ⟨_, rfl, ?_⟩
    exact fin_panic (.err e (.on hq ⟨p', rfl, hq2⟩))
   ·have ob : ∃ r, (bs.drop (p + 1)).take k = r := ⟨_, rfl⟩
    obtain ⟨r, hr⟩ := ob
    have hrl : r.length = k := by rw [← hr]; simp; omega
    have hg1 : bs.getD (p + 1) 0 = r[0] := by
     rw [getD_of (by omega)]
     simp [← hr]
    have hnum : numberP bs p = if r[0] = 0 ∨ beVal r < 248 then .error 12 else .ok (beVal r, p + 1 + k) := by
     unfold numberP
     rw [if_neg hp, hg, if_neg hc, hk, if_neg hk2, hr, hg1]
    refine calls (n := 48) Tryz.func160 rfl rfl rfl ?_
    refine sr <| wA <| wZ <| sr <| wm <| wE rfl (run_call en178 rfl rfl) (take_ok (bs := bs) (k := 1) _ h (by omega) (by omega)) ?_
    rintro e w ⟨a, c, rfl, hsl, ho, hq⟩
    refine ⟨_, rfl, ?_⟩
    refine wA <| wZ ?_
    rw [hd1] at hsl
    have ob := cell_u8 (i := 0) hsl (by simp)
    obtain ⟨bk, off, rfl, hcell⟩ := ob
    simp only [List.getElem_cons_zero] at hcell
    refine cq <| sr <| wm <| wV (run_ixSlN (i := 0) u76 ty5 rfl rfl (by omega)) <| wl ty5 rfl (hcell) <| wV (run_bF (run_lss rfl rfl) (by omega)) <| wZ <| cF rfl <| ck <| sr <| wm <| wm <| wV (run_ixSlN (i := 0) u76 ty5 rfl rfl (by omega)) <| wl ty5 rfl (hcell) <| wV (run_convI64 u5 u3 rfl (by omega)) <| wV (run_sub (c := (k : Int)) rfl rfl (by omega) (by omega)) ?_
    refine wE rfl (run_call en178 rfl rfl) (take_ok (bs := bs) (k := k) _ (h.next hq) (by omega) (by omega)) ?_
    rintro e w ⟨a2, c2, rfl, hsl2, ho2, hq2⟩
    refine ⟨_, rfl, ?_⟩
    refine wA <| wZ ?_
    rw [hr] at hsl2
    have hq3 := Step.call (L1 := [RdB b bv (p + 1)]) (L := []) hq hq2
    have hsl3 : Sl w 1 (.slice a2 k c2) k (u8s r) := hsl2
    have ob := cell_u8 (i := 0) hsl3 (by omega)
    obtain ⟨bk2, off2, rfl, hcell2⟩ := ob
    refine sr <| wA <| wZ <| cq <| sr <| wm <| wV (run_lenSl u76 rfl) <| wm <| wZ ?_
    have hq4 := hq3
    rename_i wX
    refine cB <| CW.loop (fun m f w' => ∃ i, i ≤ k ∧ m = k - i ∧ w = w' ∧ Holds f [(0, .pointer (some ⟨b, 0, none⟩)), (4, .slice (some ⟨bk2, off2, none⟩) k c2), (5, .int .u64 (beVal (r.take i) : Nat)), (25, .slice (some ⟨bk2, off2, none⟩) k c2), (26, .int .i64 k), (27, .int .i64 i)]) (m := k) ?_ ?_
    ·exact ⟨0, by omega, by omega, rfl, rfl, rfl, rfl, rfl, rfl, rfl, trivial⟩
    ·rintro m f w ⟨i, hi, rfl, rfl, hf⟩
     have ob := hf.chain
     obtain ⟨g, rfl⟩ := ob
     refine sr <| wV (run_lss rfl rfl) <| wZ <| cq <| CW.condP rfl (fun hlt => ?_) (fun hlt => ?_)
     ·have hlt' : i < r.length := by omega
      have hb1 := beVal_lt (r.take i)
      have hb2 : 256 ^ (r.take i).length ≤ 256 ^ 7 := Nat.pow_le_pow_right (by decide) (by rw [List.length_take]; omega)
      have h7 : (256 : Nat) ^ 7 = 72057594037927936 := by decide
      have hcl2 := (r[i]).toNat_lt
      have ob := cell_u8 (i := i) hsl3 hlt'
      obtain ⟨bk3, off3, hb3, hcell3⟩ := ob
      obtain ⟨rfl, rfl⟩ : bk2 = bk3 ∧ off2 = off3 := by cases hb3; exact ⟨rfl, rfl⟩
      refine ck <| cq <| cB <| sr <| wV (run_ixSlN u76 ty5 rfl rfl (by omega)) <| wl ty5 rfl (hcell3) <| wA <| wZ <| cr <| wm <| wV (run_shl8 rfl rfl (by omega)) <| wm <| wV (run_convU64 u5 u240 rfl (by omega)) <| wV (run_orB rfl rfl (by omega) (by omega)) <| wA ?_
      refine wZ <| cr <| wV (run_add (c := ((i + 1 : Nat) : Int)) rfl rfl (by omega) (by omega)) <| wm <| wZ <| (show _ ∧ _ from ⟨rfl, _, ?_, i + 1, by omega, rfl, rfl, rfl, rfl, ?_, rfl, rfl, rfl, trivial⟩)
      ·omega
      ·rw [List.take_succ_eq_append_getElem hlt', beVal_append]
       rfl
     ·obtain rfl : i = k := by omega
      have htk : r.take i = r := List.take_of_length_le (by omega)
      rw [htk]
      have hbl := beVal_lt r
      have hbl2 : 256 ^ r.length ≤ 256 ^ 8 := Nat.pow_le_pow_right (by decide) (by omega)
      have h8 : (256 : Nat) ^ 8 = 18446744073709551616 := by decide
      by_cases hr0 : r[0] = 0
      ·refine CW.exit <| cq <| sr <| wm <| wV (run_ixSlN (i := 0) u76 ty5 rfl rfl (by omega)) <| wl ty5 rfl (hcell2) <| wV (run_bT (run_eql rfl rfl) (by rw [hr0]; rfl)) <| wm <| wz <| wz <| wV (run_pickT rfl) <| wZ ?_
       have e : numberP bs p = .error 12 := by rw [hnum, if_pos (.inl hr0)]
       refine cT rfl <| cr <| wm <| WL.enterX (run_call en127 rfl rfl) (fail_throw (bs := bs) (er := 12) _ (h.next hq3) (by decide)) ?_
       rintro e w ⟨p', rfl, hq5⟩
       refine ⟨_, rfl, ?_⟩
       exact fin_panic (.err e (.on hq3 ⟨p', rfl, hq5⟩))
      ·have hr0' : ¬ ((r[0].toNat : Int) = 0) := fun h => hr0 (UInt8.toNat_inj.1 (by simpa using h))
       by_cases hu : beVal r < 248
       ·refine CW.exit <| cq <| sr <| wm <| wV (run_ixSlN (i := 0) u76 ty5 rfl rfl (by omega)) <| wl ty5 rfl (hcell2) <| wV (run_bF (run_eql rfl rfl) (by exact hr0')) <| wm <| wy <| wm <| wy <| wV (run_bT (run_lss rfl rfl) (by omega)) <| wV (run_pickF rfl) <| wZ ?_
        have e : numberP bs p = .error 12 := by rw [hnum, if_pos (.inr hu)]
        refine cT rfl <| cr <| wm <| WL.enterX (run_call en127 rfl rfl) (fail_throw (bs := bs) (er := 12) _ (h.next hq3) (by decide)) ?_
        rintro e w ⟨p', rfl, hq5⟩
        refine ⟨_, rfl, ?_⟩
        exact fin_panic (.err e (.on hq3 ⟨p', rfl, hq5⟩))
       ·refine CW.exit <| cq <| sr <| wm <| wV (run_ixSlN (i := 0) u76 ty5 rfl rfl (by omega)) <| wl ty5 rfl (hcell2) <| wV (run_bF (run_eql rfl rfl) (by exact hr0')) <| wm <| wy <| wm <| wy <| wV (run_bF (run_lss rfl rfl) (by omega)) <| wV (run_pickF rfl) <| wZ ?_
        have e : numberP bs p = .ok (beVal r, p + 1 + i) := by rw [hnum, if_neg (fun h => h.elim hr0 hu)]
        refine cF rfl <| ck <| sr <| wm <| wA <| wZ <| CW.ret ?_
        refine fin_ret1 rfl ?_
        exact .ok e rfl hq3
theorem run_shr63 {P : Program} {f : Slots} {w : World} {d : Option Tmp} {ty : TypeId} {pos : String} {af : Array Edge} {x y : Operand} {T T' : TypeId} {u : Nat} {k' : IntKind} (hx : ev f x = .int .u64 u) (hy : ev f y = .int k' 63) :
  (execOp (ev f) ⟨d, .binOp .shr T x y T', ty, pos, af, none⟩).run P w = .ok (.value (.int .u64 (u / 9223372036854775808 : Nat))) w := by
 rw [run_shr hx hy (by decide)]
 have e : (2 : Int) ^ min (63 : Int).toNat IntKind.u64.bits = ((9223372036854775808 : Nat) : Int) := by decide
 rw [e, Int.fdiv_eq_ediv_of_nonneg _ (by decide), ← Int.natCast_ediv]
theorem number_at {b p : Nat} {bs : List UInt8} {bv : Value} {r : Except Int (Nat × Nat)} (hr : numberP bs p = r) (w0 : World) (h : RdOk w0 b bs bv p) (hpl : p ≤ bs.length) : Calls Tryz.prog 160 #[.pointer (some ⟨b, 0, none⟩)] w0 (NumR b bv w0 (fun u => .int .u64 u) r) := hr ▸ number_spec w0 h hpl
theorem num_at {b p : Nat} {bs : List UInt8} {bv : Value} {r : Except Int (Nat × Nat)} (hr : numP bs p = r) (w0 : World) (h : RdOk w0 b bs bv p) (hpl : p ≤ bs.length) : Calls Tryz.prog 126 #[.pointer (some ⟨b, 0, none⟩)] w0 (NumR b bv w0 (fun u => .int .i64 u) r) := by
 have hs := h.own
 unfold RdB at hs
 cases hn : numberP bs p with
 | error er =>
  have e : r = .error er := by rw [← hr]; unfold numP; rw [hn]
  refine calls (n := 17) Tryz.func126 rfl rfl rfl ?_
  refine sr <| wA <| wZ <| cq <| sr <| wm <| wn rfl <| wF 2 u266 rfl ty4 rfl <| wl ty4 rfl (hs.c0 rfl) <| wZ <| cF rfl <| ck <| cq ?_
  refine cr <| wm <| WL.enterX (run_call en160 rfl rfl) (number_at hn _ h hpl) ?_
  rintro e w ⟨p', rfl, hq⟩
  refine ⟨_, rfl, ?_⟩
  exact fin_panic (.err e ⟨p', rfl, hq⟩)
 | ok uq =>
  obtain ⟨u, q⟩ := uq
  have hb := numberP_ok hn
  by_cases hbig : 9223372036854775808 ≤ u
  ·have e : r = .error 12 := by rw [← hr]; unfold numP; rw [hn]; exact if_pos hbig
   refine calls (n := 17) Tryz.func126 rfl rfl rfl ?_
   refine sr <| wA <| wZ <| cq <| sr <| wm <| wn rfl <| wF 2 u266 rfl ty4 rfl <| wl ty4 rfl (hs.c0 rfl) <| wZ <| cF rfl <| ck <| cq ?_
   refine cr <| wm <| wE rfl (run_call en160 rfl rfl) (number_at hn _ h hpl) ?_
   rintro e w ⟨rfl, hq⟩
   refine ⟨_, rfl, ?_⟩
   refine wA <| wZ <| cq <| sr <| wm <| wV (run_shr63 rfl rfl) <| wV (run_bT (run_neq rfl rfl) (by omega)) <| wZ <| cT rfl <| cr <| wm <| WL.enterX (run_call en127 rfl rfl) (fail_throw (bs := bs) (er := 12) _ (h.next hq) (by decide)) ?_
   rintro e w ⟨p', rfl, hq2⟩
   refine ⟨_, rfl, ?_⟩
   exact fin_panic (.err e (.on hq ⟨p', rfl, hq2⟩))
  ·have e : r = .ok (u, q) := by rw [← hr]; unfold numP; rw [hn]; exact if_neg hbig
   refine calls (n := 17) Tryz.func126 rfl rfl rfl ?_
   refine sr <| wA <| wZ <| cq <| sr <| wm <| wn rfl <| wF 2 u266 rfl ty4 rfl <| wl ty4 rfl (hs.c0 rfl) <| wZ <| cF rfl <| ck <| cq ?_
   refine cr <| wm <| wE rfl (run_call en160 rfl rfl) (number_at hn _ h hpl) ?_
   rintro e w ⟨rfl, hq⟩
   refine ⟨_, rfl, ?_⟩
   refine wA <| wZ <| cq <| sr <| wm <| wV (run_shr63 rfl rfl) <| wV (run_bF (run_neq rfl rfl) (by omega)) <| wZ <| cF rfl <| ck <| sr <| wm <| wV (run_convI64 u240 u3 rfl (by omega)) <| wA <| wZ ?_
   refine CW.ret ?_
   refine fin_ret1 rfl ?_
   exact .ok e rfl hq
theorem most_at {b p m : Nat} {bs : List UInt8} {bv : Value} {r : Except Int (Nat × Nat)} (hr : mostP m bs p = r) (w0 : World) (h : RdOk w0 b bs bv p) (hpl : p ≤ bs.length) : Calls Tryz.prog 128 #[.pointer (some ⟨b, 0, none⟩), .int .i64 m] w0 (NumR b bv w0 (fun u => .int .i64 u) r) := by
 cases hn : numP bs p with
 | error er =>
  have e : r = .error er := by rw [← hr]; unfold mostP; rw [hn]
  refine calls (n := 21) Tryz.func128 rfl rfl rfl ?_
  refine sr <| wA <| wZ <| sr <| wm <| WL.enterX (run_call en126 rfl rfl) (num_at hn _ h hpl) ?_
  rintro e w ⟨p', rfl, hq⟩
  refine ⟨_, rfl, ?_⟩
  exact fin_panic (.err e ⟨p', rfl, hq⟩)
 | ok uq =>
  obtain ⟨u, q⟩ := uq
  by_cases hbig : m < u
  ·have e : r = .error 2 := by rw [← hr]; unfold mostP; rw [hn]; exact if_pos hbig
   refine calls (n := 21) Tryz.func128 rfl rfl rfl ?_
   refine sr <| wA <| wZ <| sr <| wm <| wE rfl (run_call en126 rfl rfl) (num_at hn _ h hpl) ?_
   rintro e w ⟨rfl, hq⟩
   refine ⟨_, rfl, ?_⟩
   refine wA <| wZ ?_
   have hs : Step [b] [(b, _)] w0 w := hq
   refine cq <| sr <| wm <| wn rfl <| wF 2 u266 rfl ty4 rfl <| wl ty4 rfl (hs.c0 rfl) <| wV (run_not rfl) <| wm <| wy <| wm <| wy <| wm <| wy <| wV (run_bT (run_gtr rfl rfl) (by omega)) <| wV (run_pickT rfl) <| wZ <| cT rfl <| cr <| wm ?_
   refine WL.enterX (run_call en127 rfl rfl) (fail_throw (bs := bs) (er := 2) _ (h.next hq) (by decide)) ?_
   rintro e w ⟨p', rfl, hq2⟩
   refine ⟨_, rfl, ?_⟩
   exact fin_panic (.err e (.on hq ⟨p', rfl, hq2⟩))
  ·have e : r = .ok (u, q) := by rw [← hr]; unfold mostP; rw [hn]; exact if_neg hbig
   refine calls (n := 21) Tryz.func128 rfl rfl rfl ?_
   refine sr <| wA <| wZ <| sr <| wm <| wE rfl (run_call en126 rfl rfl) (num_at hn _ h hpl) ?_
   rintro e w ⟨rfl, hq⟩
   refine ⟨_, rfl, ?_⟩
   refine wA <| wZ ?_
   have hs : Step [b] [(b, _)] w0 w := hq
   refine cq <| sr <| wm <| wn rfl <| wF 2 u266 rfl ty4 rfl <| wl ty4 rfl (hs.c0 rfl) <| wV (run_not rfl) <| wm <| wy <| wm <| wy <| wm <| wy <| wV (run_bF (run_gtr rfl rfl) (by omega)) <| wV (run_pickT rfl) <| wZ ?_
   refine cF rfl <| ck <| sr <| wm <| wA <| wZ <| CW.ret ?_
   refine fin_ret1 rfl ?_
   exact .ok e rfl hq
def BytR (b : Nat) (bv : Value) (w0 : World) : Except Int (List UInt8 × Nat) → Ending → World → Prop
 | .ok (s, q), e, w' => ∃ v Lv, e = .returned v ∧ OwnSl 5 1 v s.length (u8s s) Lv ∧ Step [b] (RdB b bv q :: Lv) w0 w'
 | .error er, e, w' => Thrown b bv er w0 e w'
theorem BytR.err {b : Nat} {bv : Value} {w0 w' : World} {ed : Ending} {r : Except Int (List UInt8 × Nat)} {er : Int} (hr : r = .error er) (h : Thrown b bv er w0 ed w') : BytR b bv w0 r ed w' := by subst hr; exact h
theorem BytR.ok {b : Nat} {bv : Value} {w0 w' : World} {v : Value} {Lv : List (Nat × Obj)} {s : List UInt8} {q : Nat} {r : Except Int (List UInt8 × Nat)} (hr : r = .ok (s, q)) (hv : OwnSl 5 1 v s.length (u8s s) Lv) (hs : Step [b] (RdB b bv q :: Lv) w0 w') : BytR b bv w0 r (.returned v) w' := by subst hr; exact ⟨v, Lv, rfl, hv, hs⟩
theorem bytes_at {b p : Nat} {bs : List UInt8} {bv : Value} {r : Except Int (List UInt8 × Nat)} (hr : bytesP bs p = r) (w0 : World) (h : RdOk w0 b bs bv p) (hpl : p ≤ bs.length) : Calls Tryz.prog 140 #[.pointer (some ⟨b, 0, none⟩)] w0 (BytR b bv w0 r) := by
 have hs := h.own
 have hlen := h.len
 unfold RdB at hs
 cases hn : numP bs p with
 | error er =>
  have e : r = .error er := by rw [← hr]; unfold bytesP; rw [hn]
  refine calls (n := 12) Tryz.func140 rfl rfl rfl ?_
  refine sr <| wA <| wZ <| cq <| sr <| wm <| wn rfl <| wF 2 u266 rfl ty4 rfl <| wl ty4 rfl (hs.c0 rfl) <| wZ <| cF rfl <| ck <| cq ?_
  refine cr <| wm <| wm <| WL.enterX (run_call en126 rfl rfl) (num_at hn _ h hpl) ?_
  rintro e w ⟨p', rfl, hq⟩
  refine ⟨_, rfl, ?_⟩
  exact fin_panic (.err e ⟨p', rfl, hq⟩)
 | ok uq =>
  obtain ⟨u, q⟩ := uq
  have hb := numP_ok hn
  by_cases hbig : bs.length < q + u
  ·have e : r = .error 11 := by rw [← hr]; unfold bytesP; rw [hn]; exact if_pos hbig
   refine calls (n := 12) Tryz.func140 rfl rfl rfl ?_
   refine sr <| wA <| wZ <| cq <| sr <| wm <| wn rfl <| wF 2 u266 rfl ty4 rfl <| wl ty4 rfl (hs.c0 rfl) <| wZ <| cF rfl <| ck <| cq ?_
   refine cr <| wm <| wm <| wE rfl (run_call en126 rfl rfl) (num_at hn _ h hpl) ?_
   rintro e w ⟨rfl, hq⟩
   refine ⟨_, rfl, ?_⟩
   refine WL.enterX (run_call en178 rfl rfl) (take_err (bs := bs) _ (h.next hq) (by omega) hbig (by omega)) ?_
   rintro e w ⟨p', rfl, hq2⟩
   refine ⟨_, rfl, ?_⟩
   exact fin_panic (.err e (.on hq ⟨p', rfl, hq2⟩))
  ·have e : r = .ok ((bs.drop q).take u, q + u) := by rw [← hr]; unfold bytesP; rw [hn]; exact if_neg hbig
   have hsl : ((bs.drop q).take u).length = u := by simp; omega
   refine calls (n := 12) Tryz.func140 rfl rfl rfl ?_
   refine sr <| wA <| wZ <| cq <| sr <| wm <| wn rfl <| wF 2 u266 rfl ty4 rfl <| wl ty4 rfl (hs.c0 rfl) <| wZ <| cF rfl <| ck <| cq ?_
   refine cr <| wm <| wm <| wE rfl (run_call en126 rfl rfl) (num_at hn _ h hpl) ?_
   rintro e w ⟨rfl, hq⟩
   refine ⟨_, rfl, ?_⟩
   refine wE rfl (run_call en178 rfl rfl) (take_ok (bs := bs) _ (h.next hq) (by omega) (by omega)) ?_
   rintro e w ⟨a, c, rfl, hsl2, ho, hq2⟩
   refine ⟨_, rfl, ?_⟩
   refine wE rfl (run_call en83 rfl rfl) (clone_spec (s := (bs.drop q).take u) _ (by rw [hsl]; exact hsl2) (by omega)) ?_
   rintro e w ⟨v, Lv, rfl, hv, hq3⟩
   refine ⟨_, rfl, ?_⟩
   refine wA <| wZ <| CW.ret ?_
   refine fin_ret1 rfl ?_
   have hq4 := (Step.call (L1 := [RdB b bv q]) (L := []) hq hq2).call0 hq3
   exact .ok e hv hq4.append_comm
def TxtR (b : Nat) (bv : Value) (w0 : World) : Except Int (List UInt8 × Nat) → Ending → World → Prop
 | .ok (s, q), e, w' => e = .returned (str s) ∧ Step [b] [RdB b bv q] w0 w'
 | .error er, e, w' => Thrown b bv er w0 e w'
theorem text_at {b p : Nat} {bs : List UInt8} {bv : Value} {r : Except Int (List UInt8 × Nat)} (hr : bytesP bs p = r) (w0 : World) (h : RdOk w0 b bs bv p) (hpl : p ≤ bs.length) : Calls Tryz.prog 161 #[.pointer (some ⟨b, 0, none⟩)] w0 (TxtR b bv w0 r) := by
 cases hn : r with
 | error er =>
  rw [hn] at hr
  refine calls (n := 6) Tryz.func161 rfl rfl rfl ?_
  refine sr <| wA <| wZ <| sr <| wm <| WL.enterX (run_call en140 rfl rfl) (bytes_at hr _ h hpl) ?_
  rintro e w ⟨p', rfl, hq⟩
  refine ⟨_, rfl, ?_⟩
  exact fin_panic ⟨p', rfl, hq⟩
 | ok sq =>
  obtain ⟨s, q⟩ := sq
  rw [hn] at hr
  refine calls (n := 6) Tryz.func161 rfl rfl rfl ?_
  refine sr <| wA <| wZ <| sr <| wm <| wE rfl (run_call en140 rfl rfl) (bytes_at hr _ h hpl) ?_
  rintro e w ⟨v, Lv, rfl, hv, hq⟩
  refine ⟨_, rfl, ?_⟩
  refine wV (run_toString u76 u9 u5 rfl (hv.sl (Step.append_comm (L1 := [_]) hq))) <| wA <| wZ <| CW.ret ?_
  refine fin_ret1 rfl ?_
  exact ⟨rfl, Step.dropR (L1 := [_]) hq⟩
def padD (d : List UInt8) : List UInt8 := d ++ List.replicate (32 - d.length) 0
def badD (d : List UInt8) : Prop := 32 < d.length ∨ 0 < d.length ∧ d.getLast? = some 0
instance (d : List UInt8) : Decidable (badD d) := by unfold badD; exact inferInstance
def entP (a : List UInt8) (bs : List UInt8) (p : Nat) : Except Int (Ent × Nat) :=
 match numP bs p with
 | .error e => .error e
 | .ok (k, p1) => if k = 2 ∨ k = 1 then
   match bytesP bs p1 with
   | .error e => .error e
   | .ok (s, p2) => if wrongE k s a = 0 then
     match bytesP bs p2 with
     | .error e => .error e
     | .ok (d, p3) => if badD d then .error 51 else .ok (⟨s, k, padD d⟩, p3)
    else .error 51
  else .error 51
def EntR (b : Nat) (bv : Value) (w0 : World) : Except Int (Ent × Nat) → Ending → World → Prop
 | .ok (x, q), e, w' => e = .returned (.agg x.cells.toArray) ∧ Step [b] [RdB b bv q] w0 w'
 | .error er, e, w' => Thrown b bv er w0 e w'
theorem EntR.err {b : Nat} {bv : Value} {w0 w' : World} {ed : Ending} {r : Except Int (Ent × Nat)} {er : Int} (hr : r = .error er) (h : Thrown b bv er w0 ed w') : EntR b bv w0 r ed w' := by subst hr; exact h
theorem EntR.ok {b : Nat} {bv : Value} {w0 w' : World} {ed : Ending} {r : Except Int (Ent × Nat)} {x : Ent} {q : Nat} (hr : r = .ok (x, q)) (he : ed = .returned (.agg x.cells.toArray)) (hs : Step [b] [RdB b bv q] w0 w') : EntR b bv w0 r ed w' := by subst hr; exact ⟨he, hs⟩
theorem bld_kind (k : Nat) (w : World) : (Instr.build 115 #[(1, .int .i64 k)]).run Tryz.prog w = .ok (.agg (Ent.cells ⟨[], k, List.replicate 32 0⟩).toArray) w := by kernel_rfl
theorem numP_le {bs : List UInt8} {p k q : Nat} (h : numP bs p = .ok (k, q)) : k ≤ 9223372036854775807 := by have := numP_ok h; omega
theorem bytesP_len {bs s : List UInt8} {p q : Nat} (h : bytesP bs p = .ok (s, q)) : s.length ≤ bs.length := by
 unfold bytesP at h
 split at h
 ·cases h
 ·split at h
  ·cases h
  ·injection h with h; injection h with h2 h3; subst h2; simp; omega
theorem pad_splice (k : Nat) (s d : List UInt8) (hd : d.length ≤ 32) : splice ((Ent.cells ⟨[], k, List.replicate 32 0⟩).set 0 (str s)) 2 ((u8s d).take (min d.length 32 * 1)) = Ent.cells ⟨s, k, padD d⟩ := by
 rw [Nat.min_eq_left hd, Nat.mul_one, List.take_of_length_le (by simp [u8s])]
 have e : (u8s (List.replicate 32 0)).drop d.length = u8s (List.replicate (32 - d.length) 0) := by simp only [u8s, List.map_replicate, List.drop_replicate]
 simp only [splice, Ent.cells, padD, List.set_cons_zero, List.take_succ_cons, List.take_zero, u8s_append, u8s_len]
 rw [Nat.add_comm 2, ← e]
 rfl
theorem run_sliceArr0 {P : Program} {f : Slots} {w : World} {d : Option Tmp} {ty : TypeId} {pos : String} {af : Array Edge} {x : Operand} {T E : TypeId} {agg : Bool} {n bytes : Nat} {zs : List Value} {bk off m : Nat} (ht : P.underlying T = some (.array m E)) (hE : Ty P E agg n bytes zs) (hx : ev f x = .pointer (some ⟨bk, off, none⟩)) :
  (execOp (ev f) ⟨d, .slice T x none none none, ty, pos, af, none⟩).run P w = .ok (.value (.slice (some ⟨bk, off, none⟩) m m)) w := by
 rw [run_sliceArr (xl := none) (xh := none) (lo := 0) (hi := m) ht hE hx rfl rfl (Nat.zero_le _) (Nat.le_refl _)]
 simp [cutSl]
theorem entry_at {b p : Nat} {bs a : List UInt8} {bv : Value} {r : Except Int (Ent × Nat)} (hr : entP a bs p = r) (w0 : World) (h : RdOk w0 b bs bv p) (hpl : p ≤ bs.length) (hal : a.length ≤ 9223372036854775807) : Calls Tryz.prog 129 #[.pointer (some ⟨b, 0, none⟩), str a] w0 (EntR b bv w0 r) := by
 have hlen := h.len
 have hs := Step.append_comm (L1 := [RdB b bv p]) (L2 := []) h.own
 unfold entP at hr
 cases h1 : numP bs p with
 | error er =>
  rw [h1] at hr
  refine calls (n := 57) Tryz.func129 rfl rfl rfl ?_
  refine sr <| WL.alloc ty115 rfl hs (fun b4 w hs => ?_)
  refine wZ <| sr <| wm <| WL.enterX (run_call en126 rfl rfl) (num_at h1 _ (h.next (Step.append_comm (L1 := [_]) hs)) hpl) ?_
  rintro e w ⟨p', rfl, hq⟩
  refine ⟨_, rfl, ?_⟩
  exact fin_panic (.err hr.symm (.on (Step.append_comm (L1 := [_]) hs) ⟨p', rfl, hq⟩))
 | ok kp =>
  obtain ⟨k, p1⟩ := kp
  rw [h1] at hr
  have hb1 := numP_ok h1
  have hkb := numP_le h1
  simp only at hr
  have hst : ∀ {L : List (Nat × Obj)} {w1 w2 : World} {q : Nat} {L2 : List (Nat × Obj)}, Step [b] (L ++ [RdB b bv q]) w0 w1 → Step [b] L2 w1 w2 → Step [b] (L2 ++ L) w0 w2 := fun h1 h2 => Step.call (L1 := [RdB b bv _]) h1.append_comm h2
  by_cases hk : k = 2 ∨ k = 1
  ·rw [if_pos hk] at hr
   have hsn : ∀ {w : World} {L : List (Nat × Obj)} {b5 : Nat}, Step [b] ((b5, blk 115 ((Ent.cells ⟨[], k, List.replicate 32 0⟩).set 0 (str []))) :: L) w0 w → Step [b] ((b5, blk 115 (Ent.cells ⟨[], k, List.replicate 32 0⟩)) :: L) w0 w := fun h => h
   cases h2 : bytesP bs p1 with
   | error er =>
    rw [h2] at hr
    rcases hk with rfl | rfl
    ·refine calls (n := 57) Tryz.func129 rfl rfl rfl ?_
     refine sr <| WL.alloc ty115 rfl hs (fun b4 w hs => ?_)
     refine wZ <| sr <| wm <| wE rfl (run_call en126 rfl rfl) (num_at h1 _ (h.next (Step.append_comm (L1 := [_]) hs)) hpl) ?_
     rintro e w ⟨rfl, hq⟩
     refine ⟨_, rfl, ?_⟩
     replace hs := (hst (L := [_]) hs hq).append_comm
     refine wV (run_build rfl (bld_kind _ _)) <| WL.alloc ty115 rfl hs (fun b5 w hs => ?_)
     refine WL.storeAll ty115 rfl rfl (rfl) (Ent.cells1 _) (hs) rfl (fun w hs => ?_)
     refine wZ <| cq <| sr <| wF 1 u115 rfl ty3 rfl <| wl ty3 rfl (hs.c0 rfl) <| wV (run_bT (run_neq rfl rfl) (by show ((2 : Nat) : Int) ≠ 1; decide)) <| wm <| wy <| wF 1 u115 rfl ty3 rfl <| wy <| wl ty3 rfl (hs.c0 rfl) <| wy <| wV (run_bF (run_neq rfl rfl) (by show ¬ ((2 : Nat) : Int) ≠ 2; decide)) <| wV (run_pickT rfl) <| wZ ?_
     refine cF rfl <| ck <| sr <| wm <| WL.enterX (run_call en161 rfl rfl) (text_at h2 _ (h.next (Step.append_comm (L1 := [_, _]) hs)) (by omega)) ?_
     rintro e w ⟨p', rfl, hq2⟩
     refine ⟨_, rfl, ?_⟩
     exact fin_panic (.err hr.symm (.on (Step.append_comm (L1 := [_, _]) hs) ⟨p', rfl, hq2⟩))
    ·refine calls (n := 57) Tryz.func129 rfl rfl rfl ?_
     refine sr <| WL.alloc ty115 rfl hs (fun b4 w hs => ?_)
     refine wZ <| sr <| wm <| wE rfl (run_call en126 rfl rfl) (num_at h1 _ (h.next (Step.append_comm (L1 := [_]) hs)) hpl) ?_
     rintro e w ⟨rfl, hq⟩
     refine ⟨_, rfl, ?_⟩
     replace hs := (hst (L := [_]) hs hq).append_comm
     refine wV (run_build rfl (bld_kind _ _)) <| WL.alloc ty115 rfl hs (fun b5 w hs => ?_)
     refine WL.storeAll ty115 rfl rfl (rfl) (Ent.cells1 _) (hs) rfl (fun w hs => ?_)
     refine wZ <| cq <| sr <| wF 1 u115 rfl ty3 rfl <| wl ty3 rfl (hs.c0 rfl) <| wV (run_bF (run_neq rfl rfl) (by show ¬ ((1 : Nat) : Int) ≠ 1; decide)) <| wm <| wz <| wz <| wz <| wV (run_pickF rfl) <| wZ <| cF rfl <| ck <| cq ?_
     refine cr <| wm <| WL.enterX (run_call en161 rfl rfl) (text_at h2 _ (h.next (Step.append_comm (L1 := [_, _]) hs)) (by omega)) ?_
     rintro e w ⟨p', rfl, hq2⟩
     refine ⟨_, rfl, ?_⟩
     exact fin_panic (.err hr.symm (.on (Step.append_comm (L1 := [_, _]) hs) ⟨p', rfl, hq2⟩))
   | ok sp =>
    obtain ⟨s, p2⟩ := sp
    rw [h2] at hr
    have hb2 := bytesP_ok h2
    have hsl := bytesP_len h2
    simp only at hr
    by_cases hw : wrongE k s a = 0
    ·rw [if_pos hw] at hr
     cases h3 : bytesP bs p2 with
     | error er =>
      rw [h3] at hr
      rcases hk with rfl | rfl
      ·refine calls (n := 57) Tryz.func129 rfl rfl rfl ?_
       refine sr <| WL.alloc ty115 rfl hs (fun b4 w hs => ?_)
       refine wZ <| sr <| wm <| wE rfl (run_call en126 rfl rfl) (num_at h1 _ (h.next (Step.append_comm (L1 := [_]) hs)) hpl) ?_
       rintro e w ⟨rfl, hq⟩
       refine ⟨_, rfl, ?_⟩
       replace hs := (hst (L := [_]) hs hq).append_comm
       refine wV (run_build rfl (bld_kind _ _)) <| WL.alloc ty115 rfl hs (fun b5 w hs => ?_)
       refine WL.storeAll ty115 rfl rfl (rfl) (Ent.cells1 _) (hs) rfl (fun w hs => ?_)
       refine wZ <| cq <| sr <| wF 1 u115 rfl ty3 rfl <| wl ty3 rfl (hs.c0 rfl) <| wV (run_bT (run_neq rfl rfl) (by show ((2 : Nat) : Int) ≠ 1; decide)) <| wm <| wy <| wF 1 u115 rfl ty3 rfl <| wy <| wl ty3 rfl (hs.c0 rfl) <| wy <| wV (run_bF (run_neq rfl rfl) (by show ¬ ((2 : Nat) : Int) ≠ 2; decide)) <| wV (run_pickT rfl) <| wZ ?_
       refine cF rfl <| ck <| sr <| wm <| wE rfl (run_call en161 rfl rfl) (text_at h2 _ (h.next (Step.append_comm (L1 := [_, _]) hs)) (by omega)) ?_
       rintro e w ⟨rfl, hq2⟩
       refine ⟨_, rfl, ?_⟩
       replace hs := (hst (L := [_, _]) hs hq2).append_comm
       refine wF 0 u115 rfl ty9 rfl <| ws1 ty9 rfl rfl (rfl) (hs) (fun w hs => ?_)
       refine wZ <| sr <| wm <| wF 1 u115 rfl ty3 rfl <| wl ty3 rfl (hs.c0 rfl) <| wF 0 u115 rfl ty9 rfl <| wl ty9 rfl (hs.c0 rfl) <| wm <| wE rfl (run_call en162 rfl rfl) (wrong_spec hw _ (by omega)) ?_
       rintro e w ⟨rfl, hq3⟩
       refine ⟨_, rfl, ?_⟩
       replace hs := hs.callE hq3
       refine wE rfl (run_call en127 rfl rfl) (fail_none (bs := bs) _ (h.next (Step.append_comm (L1 := [_, _]) hs))) ?_
       rintro e w ⟨rfl, hq4⟩
       refine ⟨_, rfl, ?_⟩
       replace hs := (hst (L := [_, _]) hs hq4).append_comm
       refine wZ <| sr <| wm <| WL.enterX (run_call en140 rfl rfl) (bytes_at h3 _ (h.next (Step.append_comm (L1 := [_, _]) hs)) (by omega)) ?_
       rintro e w ⟨p', rfl, hq5⟩
       refine ⟨_, rfl, ?_⟩
       exact fin_panic (.err hr.symm (.on (Step.append_comm (L1 := [_, _]) hs) ⟨p', rfl, hq5⟩))
      ·refine calls (n := 57) Tryz.func129 rfl rfl rfl ?_
       refine sr <| WL.alloc ty115 rfl hs (fun b4 w hs => ?_)
       refine wZ <| sr <| wm <| wE rfl (run_call en126 rfl rfl) (num_at h1 _ (h.next (Step.append_comm (L1 := [_]) hs)) hpl) ?_
       rintro e w ⟨rfl, hq⟩
       refine ⟨_, rfl, ?_⟩
       replace hs := (hst (L := [_]) hs hq).append_comm
       refine wV (run_build rfl (bld_kind _ _)) <| WL.alloc ty115 rfl hs (fun b5 w hs => ?_)
       refine WL.storeAll ty115 rfl rfl (rfl) (Ent.cells1 _) (hs) rfl (fun w hs => ?_)
       refine wZ <| cq <| sr <| wF 1 u115 rfl ty3 rfl <| wl ty3 rfl (hs.c0 rfl) <| wV (run_bF (run_neq rfl rfl) (by show ¬ ((1 : Nat) : Int) ≠ 1; decide)) <| wm <| wz <| wz <| wz <| wV (run_pickF rfl) <| wZ <| cF rfl <| ck <| cq ?_
       refine cr <| wm <| wE rfl (run_call en161 rfl rfl) (text_at h2 _ (h.next (Step.append_comm (L1 := [_, _]) hs)) (by omega)) ?_
       rintro e w ⟨rfl, hq2⟩
       refine ⟨_, rfl, ?_⟩
       replace hs := (hst (L := [_, _]) hs hq2).append_comm
       refine wF 0 u115 rfl ty9 rfl <| ws1 ty9 rfl rfl (rfl) (hs) (fun w hs => ?_)
       refine wZ <| sr <| wm <| wF 1 u115 rfl ty3 rfl <| wl ty3 rfl (hs.c0 rfl) <| wF 0 u115 rfl ty9 rfl <| wl ty9 rfl (hs.c0 rfl) <| wm <| wE rfl (run_call en162 rfl rfl) (wrong_spec hw _ (by omega)) ?_
       rintro e w ⟨rfl, hq3⟩
       refine ⟨_, rfl, ?_⟩
       replace hs := hs.callE hq3
       refine wE rfl (run_call en127 rfl rfl) (fail_none (bs := bs) _ (h.next (Step.append_comm (L1 := [_, _]) hs))) ?_
       rintro e w ⟨rfl, hq4⟩
       refine ⟨_, rfl, ?_⟩
       replace hs := (hst (L := [_, _]) hs hq4).append_comm
       refine wZ <| sr <| wm <| WL.enterX (run_call en140 rfl rfl) (bytes_at h3 _ (h.next (Step.append_comm (L1 := [_, _]) hs)) (by omega)) ?_
       rintro e w ⟨p', rfl, hq5⟩
       refine ⟨_, rfl, ?_⟩
       exact fin_panic (.err hr.symm (.on (Step.append_comm (L1 := [_, _]) hs) ⟨p', rfl, hq5⟩))
     | ok dp =>
      obtain ⟨d, p3⟩ := dp
      rw [h3] at hr
      have hb3 := bytesP_ok h3
      have hdl := bytesP_len h3
      simp only at hr
      by_cases hd1 : 32 < d.length
      ·rw [if_pos (show badD d from .inl hd1)] at hr
       rcases hk with rfl | rfl
       ·refine calls (n := 57) Tryz.func129 rfl rfl rfl ?_
        refine sr <| WL.alloc ty115 rfl hs (fun b4 w hs => ?_)
        refine wZ <| sr <| wm <| wE rfl (run_call en126 rfl rfl) (num_at h1 _ (h.next (Step.append_comm (L1 := [_]) hs)) hpl) ?_
        rintro e w ⟨rfl, hq⟩
        refine ⟨_, rfl, ?_⟩
        replace hs := (hst (L := [_]) hs hq).append_comm
        refine wV (run_build rfl (bld_kind _ _)) <| WL.alloc ty115 rfl hs (fun b5 w hs => ?_)
        refine WL.storeAll ty115 rfl rfl (rfl) (Ent.cells1 _) (hs) rfl (fun w hs => ?_)
        refine wZ <| cq <| sr <| wF 1 u115 rfl ty3 rfl <| wl ty3 rfl (hs.c0 rfl) <| wV (run_bT (run_neq rfl rfl) (by show ((2 : Nat) : Int) ≠ 1; decide)) <| wm <| wy <| wF 1 u115 rfl ty3 rfl <| wy <| wl ty3 rfl (hs.c0 rfl) <| wy <| wV (run_bF (run_neq rfl rfl) (by show ¬ ((2 : Nat) : Int) ≠ 2; decide)) <| wV (run_pickT rfl) <| wZ ?_
        refine cF rfl <| ck <| sr <| wm <| wE rfl (run_call en161 rfl rfl) (text_at h2 _ (h.next (Step.append_comm (L1 := [_, _]) hs)) (by omega)) ?_
        rintro e w ⟨rfl, hq2⟩
        refine ⟨_, rfl, ?_⟩
        replace hs := (hst (L := [_, _]) hs hq2).append_comm
        refine wF 0 u115 rfl ty9 rfl <| ws1 ty9 rfl rfl (rfl) (hs) (fun w hs => ?_)
        refine wZ <| sr <| wm <| wF 1 u115 rfl ty3 rfl <| wl ty3 rfl (hs.c0 rfl) <| wF 0 u115 rfl ty9 rfl <| wl ty9 rfl (hs.c0 rfl) <| wm <| wE rfl (run_call en162 rfl rfl) (wrong_spec hw _ (by omega)) ?_
        rintro e w ⟨rfl, hq3⟩
        refine ⟨_, rfl, ?_⟩
        replace hs := hs.callE hq3
        refine wE rfl (run_call en127 rfl rfl) (fail_none (bs := bs) _ (h.next (Step.append_comm (L1 := [_, _]) hs))) ?_
        rintro e w ⟨rfl, hq4⟩
        refine ⟨_, rfl, ?_⟩
        replace hs := (hst (L := [_, _]) hs hq4).append_comm
        refine wZ <| sr <| wm <| wE rfl (run_call en140 rfl rfl) (bytes_at h3 _ (h.next (Step.append_comm (L1 := [_, _]) hs)) (by omega)) ?_
        rintro e w ⟨v, Lv, rfl, hv, hq5⟩
        refine ⟨_, rfl, ?_⟩
        have ob := hv.form
        obtain ⟨va, vc, rfl⟩ := ob
        replace hs := (hst (L := [_, _]) hs hq5).append_comm
        refine wA <| wZ ?_
        have hvs := fun (w : World) (hs : Step [b] Lv w0 w) => hv.sl (S := [b]) (L := []) (w0 := w0) (w := w) (by rw [List.append_nil]; exact hs)
        refine cq <| sr <| wm <| wV (run_lenSl u76 rfl) <| wV (run_bT (run_gtr rfl rfl) (by omega)) <| wm <| wz <| wz <| wz <| wz <| wz <| wz <| wz <| wz <| wz <| wz <| wz <| wz <| wV (run_pickT rfl) <| wZ <| cT rfl <| cr <| wm ?_
        refine WL.enterX (run_call en127 rfl rfl) (fail_throw (bs := bs) (er := 51) _ (h.next (Step.append_comm (L1 := [_, _]) hs)) (by decide)) ?_
        rintro e w ⟨p', rfl, hq6⟩
        refine ⟨_, rfl, ?_⟩
        exact fin_panic (.err hr.symm (.on (Step.append_comm (L1 := [_, _]) hs) ⟨p', rfl, hq6⟩))
       ·refine calls (n := 57) Tryz.func129 rfl rfl rfl ?_
        refine sr <| WL.alloc ty115 rfl hs (fun b4 w hs => ?_)
        refine wZ <| sr <| wm <| wE rfl (run_call en126 rfl rfl) (num_at h1 _ (h.next (Step.append_comm (L1 := [_]) hs)) hpl) ?_
        rintro e w ⟨rfl, hq⟩
        refine ⟨_, rfl, ?_⟩
        replace hs := (hst (L := [_]) hs hq).append_comm
        refine wV (run_build rfl (bld_kind _ _)) <| WL.alloc ty115 rfl hs (fun b5 w hs => ?_)
        refine WL.storeAll ty115 rfl rfl (rfl) (Ent.cells1 _) (hs) rfl (fun w hs => ?_)
        refine wZ <| cq <| sr <| wF 1 u115 rfl ty3 rfl <| wl ty3 rfl (hs.c0 rfl) <| wV (run_bF (run_neq rfl rfl) (by show ¬ ((1 : Nat) : Int) ≠ 1; decide)) <| wm <| wz <| wz <| wz <| wV (run_pickF rfl) <| wZ <| cF rfl <| ck <| cq ?_
        refine cr <| wm <| wE rfl (run_call en161 rfl rfl) (text_at h2 _ (h.next (Step.append_comm (L1 := [_, _]) hs)) (by omega)) ?_
        rintro e w ⟨rfl, hq2⟩
        refine ⟨_, rfl, ?_⟩
        replace hs := (hst (L := [_, _]) hs hq2).append_comm
        refine wF 0 u115 rfl ty9 rfl <| ws1 ty9 rfl rfl (rfl) (hs) (fun w hs => ?_)
        refine wZ <| sr <| wm <| wF 1 u115 rfl ty3 rfl <| wl ty3 rfl (hs.c0 rfl) <| wF 0 u115 rfl ty9 rfl <| wl ty9 rfl (hs.c0 rfl) <| wm <| wE rfl (run_call en162 rfl rfl) (wrong_spec hw _ (by omega)) ?_
        rintro e w ⟨rfl, hq3⟩
        refine ⟨_, rfl, ?_⟩
        replace hs := hs.callE hq3
        refine wE rfl (run_call en127 rfl rfl) (fail_none (bs := bs) _ (h.next (Step.append_comm (L1 := [_, _]) hs))) ?_
        rintro e w ⟨rfl, hq4⟩
        refine ⟨_, rfl, ?_⟩
        replace hs := (hst (L := [_, _]) hs hq4).append_comm
        refine wZ <| sr <| wm <| wE rfl (run_call en140 rfl rfl) (bytes_at h3 _ (h.next (Step.append_comm (L1 := [_, _]) hs)) (by omega)) ?_
        rintro e w ⟨v, Lv, rfl, hv, hq5⟩
        refine ⟨_, rfl, ?_⟩
        have ob := hv.form
        obtain ⟨va, vc, rfl⟩ := ob
        replace hs := (hst (L := [_, _]) hs hq5).append_comm
        refine wA <| wZ ?_
        have hvs := fun (w : World) (hs : Step [b] Lv w0 w) => hv.sl (S := [b]) (L := []) (w0 := w0) (w := w) (by rw [List.append_nil]; exact hs)
        refine cq <| sr <| wm <| wV (run_lenSl u76 rfl) <| wV (run_bT (run_gtr rfl rfl) (by omega)) <| wm <| wz <| wz <| wz <| wz <| wz <| wz <| wz <| wz <| wz <| wz <| wz <| wz <| wV (run_pickT rfl) <| wZ <| cT rfl <| cr <| wm ?_
        refine WL.enterX (run_call en127 rfl rfl) (fail_throw (bs := bs) (er := 51) _ (h.next (Step.append_comm (L1 := [_, _]) hs)) (by decide)) ?_
        rintro e w ⟨p', rfl, hq6⟩
        refine ⟨_, rfl, ?_⟩
        exact fin_panic (.err hr.symm (.on (Step.append_comm (L1 := [_, _]) hs) ⟨p', rfl, hq6⟩))
      ·by_cases hd2 : d.length = 0
       ·rw [if_neg (show ¬ badD d from fun h => h.elim hd1 (fun h => by omega))] at hr
        rcases hk with rfl | rfl
        ·refine calls (n := 57) Tryz.func129 rfl rfl rfl ?_
         refine sr <| WL.alloc ty115 rfl hs (fun b4 w hs => ?_)
         refine wZ <| sr <| wm <| wE rfl (run_call en126 rfl rfl) (num_at h1 _ (h.next (Step.append_comm (L1 := [_]) hs)) hpl) ?_
         rintro e w ⟨rfl, hq⟩
         refine ⟨_, rfl, ?_⟩
         replace hs := (hst (L := [_]) hs hq).append_comm
         refine wV (run_build rfl (bld_kind _ _)) <| WL.alloc ty115 rfl hs (fun b5 w hs => ?_)
         refine WL.storeAll ty115 rfl rfl (rfl) (Ent.cells1 _) (hs) rfl (fun w hs => ?_)
         refine wZ <| cq <| sr <| wF 1 u115 rfl ty3 rfl <| wl ty3 rfl (hs.c0 rfl) <| wV (run_bT (run_neq rfl rfl) (by show ((2 : Nat) : Int) ≠ 1; decide)) <| wm <| wy <| wF 1 u115 rfl ty3 rfl <| wy <| wl ty3 rfl (hs.c0 rfl) <| wy <| wV (run_bF (run_neq rfl rfl) (by show ¬ ((2 : Nat) : Int) ≠ 2; decide)) <| wV (run_pickT rfl) <| wZ ?_
         refine cF rfl <| ck <| sr <| wm <| wE rfl (run_call en161 rfl rfl) (text_at h2 _ (h.next (Step.append_comm (L1 := [_, _]) hs)) (by omega)) ?_
         rintro e w ⟨rfl, hq2⟩
         refine ⟨_, rfl, ?_⟩
         replace hs := (hst (L := [_, _]) hs hq2).append_comm
         refine wF 0 u115 rfl ty9 rfl <| ws1 ty9 rfl rfl (rfl) (hs) (fun w hs => ?_)
         refine wZ <| sr <| wm <| wF 1 u115 rfl ty3 rfl <| wl ty3 rfl (hs.c0 rfl) <| wF 0 u115 rfl ty9 rfl <| wl ty9 rfl (hs.c0 rfl) <| wm <| wE rfl (run_call en162 rfl rfl) (wrong_spec hw _ (by omega)) ?_
         rintro e w ⟨rfl, hq3⟩
         refine ⟨_, rfl, ?_⟩
         replace hs := hs.callE hq3
         refine wE rfl (run_call en127 rfl rfl) (fail_none (bs := bs) _ (h.next (Step.append_comm (L1 := [_, _]) hs))) ?_
         rintro e w ⟨rfl, hq4⟩
         refine ⟨_, rfl, ?_⟩
         replace hs := (hst (L := [_, _]) hs hq4).append_comm
         refine wZ <| sr <| wm <| wE rfl (run_call en140 rfl rfl) (bytes_at h3 _ (h.next (Step.append_comm (L1 := [_, _]) hs)) (by omega)) ?_
         rintro e w ⟨v, Lv, rfl, hv, hq5⟩
         refine ⟨_, rfl, ?_⟩
         have ob := hv.form
         obtain ⟨va, vc, rfl⟩ := ob
         replace hs := (hst (L := [_, _]) hs hq5).append_comm
         refine wA <| wZ ?_
         have hvs := fun (w : World) (hs : Step [b] Lv w0 w) => hv.sl (S := [b]) (L := []) (w0 := w0) (w := w) (by rw [List.append_nil]; exact hs)
         refine cq <| sr <| wm <| wV (run_lenSl u76 rfl) <| wV (run_bF (run_gtr rfl rfl) (by omega)) <| wm <| wy <| wm <| wy <| wV (run_lenSl u76 rfl) <| wy <| wV (run_bF (run_gtr rfl rfl) (by omega)) <| wy <| wm <| wz <| wz <| wz <| wz <| wz <| wz <| wz <| wy <| wV (run_pickF rfl) <| wV (run_pickF rfl) ?_
         refine wZ <| cF rfl <| ck <| sr <| wF 2 u115 rfl ty44 rfl <| wV (run_sliceArr0 u44 ty5 rfl) <| wm <| WL.copy u76 ty5 rfl rfl (hs) ((hvs _ (Step.dropL (L1 := [_, _, _]) hs))) (Cells1.u8s d) (by first | omega | exact Nat.le_of_ble_eq_true rfl | (simp [Ent.cells, u8s]; done)) (fun k hk => by cases hk; rfl) (fun w hs => ⟨fun k hk => ?_, fun h => by cases h⟩)
         cases hk
         refine wZ ?_
         replace hs := hs.cast (pad_splice _ s d (by omega))
         have hpl : ∀ k : Nat, (Ent.cells ⟨s, k, padD d⟩).length = 34 := fun k => by simp [Ent.cells, u8s, padD]; omega
         refine sr <| wV (run_loadN ty115 rfl (hpl _) hs.a0) <| WL.storeAll ty115 rfl rfl (hpl _) (Ent.cells1 _) (hs.swap) rfl (fun w hs => ?_)
         refine wZ <| CW.ret ?_
         refine fin_cell1 rfl rfl (run_loadVarN ty115 (hpl _) hs.a0) ?_
         exact .ok hr.symm rfl (Step.dropR (L1 := [_]) (Step.dropL (L1 := [_, _]) hs))
        ·refine calls (n := 57) Tryz.func129 rfl rfl rfl ?_
         refine sr <| WL.alloc ty115 rfl hs (fun b4 w hs => ?_)
         refine wZ <| sr <| wm <| wE rfl (run_call en126 rfl rfl) (num_at h1 _ (h.next (Step.append_comm (L1 := [_]) hs)) hpl) ?_
         rintro e w ⟨rfl, hq⟩
         refine ⟨_, rfl, ?_⟩
         replace hs := (hst (L := [_]) hs hq).append_comm
         refine wV (run_build rfl (bld_kind _ _)) <| WL.alloc ty115 rfl hs (fun b5 w hs => ?_)
         refine WL.storeAll ty115 rfl rfl (rfl) (Ent.cells1 _) (hs) rfl (fun w hs => ?_)
         refine wZ <| cq <| sr <| wF 1 u115 rfl ty3 rfl <| wl ty3 rfl (hs.c0 rfl) <| wV (run_bF (run_neq rfl rfl) (by show ¬ ((1 : Nat) : Int) ≠ 1; decide)) <| wm <| wz <| wz <| wz <| wV (run_pickF rfl) <| wZ <| cF rfl <| ck <| cq ?_
         refine cr <| wm <| wE rfl (run_call en161 rfl rfl) (text_at h2 _ (h.next (Step.append_comm (L1 := [_, _]) hs)) (by omega)) ?_
         rintro e w ⟨rfl, hq2⟩
         refine ⟨_, rfl, ?_⟩
         replace hs := (hst (L := [_, _]) hs hq2).append_comm
         refine wF 0 u115 rfl ty9 rfl <| ws1 ty9 rfl rfl (rfl) (hs) (fun w hs => ?_)
         refine wZ <| sr <| wm <| wF 1 u115 rfl ty3 rfl <| wl ty3 rfl (hs.c0 rfl) <| wF 0 u115 rfl ty9 rfl <| wl ty9 rfl (hs.c0 rfl) <| wm <| wE rfl (run_call en162 rfl rfl) (wrong_spec hw _ (by omega)) ?_
         rintro e w ⟨rfl, hq3⟩
         refine ⟨_, rfl, ?_⟩
         replace hs := hs.callE hq3
         refine wE rfl (run_call en127 rfl rfl) (fail_none (bs := bs) _ (h.next (Step.append_comm (L1 := [_, _]) hs))) ?_
         rintro e w ⟨rfl, hq4⟩
         refine ⟨_, rfl, ?_⟩
         replace hs := (hst (L := [_, _]) hs hq4).append_comm
         refine wZ <| sr <| wm <| wE rfl (run_call en140 rfl rfl) (bytes_at h3 _ (h.next (Step.append_comm (L1 := [_, _]) hs)) (by omega)) ?_
         rintro e w ⟨v, Lv, rfl, hv, hq5⟩
         refine ⟨_, rfl, ?_⟩
         have ob := hv.form
         obtain ⟨va, vc, rfl⟩ := ob
         replace hs := (hst (L := [_, _]) hs hq5).append_comm
         refine wA <| wZ ?_
         have hvs := fun (w : World) (hs : Step [b] Lv w0 w) => hv.sl (S := [b]) (L := []) (w0 := w0) (w := w) (by rw [List.append_nil]; exact hs)
         refine cq <| sr <| wm <| wV (run_lenSl u76 rfl) <| wV (run_bF (run_gtr rfl rfl) (by omega)) <| wm <| wy <| wm <| wy <| wV (run_lenSl u76 rfl) <| wy <| wV (run_bF (run_gtr rfl rfl) (by omega)) <| wy <| wm <| wz <| wz <| wz <| wz <| wz <| wz <| wz <| wy <| wV (run_pickF rfl) <| wV (run_pickF rfl) ?_
         refine wZ <| cF rfl <| ck <| sr <| wF 2 u115 rfl ty44 rfl <| wV (run_sliceArr0 u44 ty5 rfl) <| wm <| WL.copy u76 ty5 rfl rfl (hs) ((hvs _ (Step.dropL (L1 := [_, _, _]) hs))) (Cells1.u8s d) (by first | omega | exact Nat.le_of_ble_eq_true rfl | (simp [Ent.cells, u8s]; done)) (fun k hk => by cases hk; rfl) (fun w hs => ⟨fun k hk => ?_, fun h => by cases h⟩)
         cases hk
         refine wZ ?_
         replace hs := hs.cast (pad_splice _ s d (by omega))
         have hpl : ∀ k : Nat, (Ent.cells ⟨s, k, padD d⟩).length = 34 := fun k => by simp [Ent.cells, u8s, padD]; omega
         refine sr <| wV (run_loadN ty115 rfl (hpl _) hs.a0) <| WL.storeAll ty115 rfl rfl (hpl _) (Ent.cells1 _) (hs.swap) rfl (fun w hs => ?_)
         refine wZ <| CW.ret ?_
         refine fin_cell1 rfl rfl (run_loadVarN ty115 (hpl _) hs.a0) ?_
         exact .ok hr.symm rfl (Step.dropR (L1 := [_]) (Step.dropL (L1 := [_, _]) hs))
       ·have hi : d.length - 1 < d.length := by omega
        have hla : d.getLast? = some d[d.length - 1] := by rw [List.getLast?_eq_getElem?, List.getElem?_eq_getElem hi]
        by_cases hz : d[d.length - 1] = 0
        ·rw [if_pos (show badD d from .inr ⟨by omega, by rw [hla, hz]⟩)] at hr
         rcases hk with rfl | rfl
         ·refine calls (n := 57) Tryz.func129 rfl rfl rfl ?_
          refine sr <| WL.alloc ty115 rfl hs (fun b4 w hs => ?_)
          refine wZ <| sr <| wm <| wE rfl (run_call en126 rfl rfl) (num_at h1 _ (h.next (Step.append_comm (L1 := [_]) hs)) hpl) ?_
          rintro e w ⟨rfl, hq⟩
          refine ⟨_, rfl, ?_⟩
          replace hs := (hst (L := [_]) hs hq).append_comm
          refine wV (run_build rfl (bld_kind _ _)) <| WL.alloc ty115 rfl hs (fun b5 w hs => ?_)
          refine WL.storeAll ty115 rfl rfl (rfl) (Ent.cells1 _) (hs) rfl (fun w hs => ?_)
          refine wZ <| cq <| sr <| wF 1 u115 rfl ty3 rfl <| wl ty3 rfl (hs.c0 rfl) <| wV (run_bT (run_neq rfl rfl) (by show ((2 : Nat) : Int) ≠ 1; decide)) <| wm <| wy <| wF 1 u115 rfl ty3 rfl <| wy <| wl ty3 rfl (hs.c0 rfl) <| wy <| wV (run_bF (run_neq rfl rfl) (by show ¬ ((2 : Nat) : Int) ≠ 2; decide)) <| wV (run_pickT rfl) <| wZ ?_
          refine cF rfl <| ck <| sr <| wm <| wE rfl (run_call en161 rfl rfl) (text_at h2 _ (h.next (Step.append_comm (L1 := [_, _]) hs)) (by omega)) ?_
          rintro e w ⟨rfl, hq2⟩
          refine ⟨_, rfl, ?_⟩
          replace hs := (hst (L := [_, _]) hs hq2).append_comm
          refine wF 0 u115 rfl ty9 rfl <| ws1 ty9 rfl rfl (rfl) (hs) (fun w hs => ?_)
          refine wZ <| sr <| wm <| wF 1 u115 rfl ty3 rfl <| wl ty3 rfl (hs.c0 rfl) <| wF 0 u115 rfl ty9 rfl <| wl ty9 rfl (hs.c0 rfl) <| wm <| wE rfl (run_call en162 rfl rfl) (wrong_spec hw _ (by omega)) ?_
          rintro e w ⟨rfl, hq3⟩
          refine ⟨_, rfl, ?_⟩
          replace hs := hs.callE hq3
          refine wE rfl (run_call en127 rfl rfl) (fail_none (bs := bs) _ (h.next (Step.append_comm (L1 := [_, _]) hs))) ?_
          rintro e w ⟨rfl, hq4⟩
          refine ⟨_, rfl, ?_⟩
          replace hs := (hst (L := [_, _]) hs hq4).append_comm
          refine wZ <| sr <| wm <| wE rfl (run_call en140 rfl rfl) (bytes_at h3 _ (h.next (Step.append_comm (L1 := [_, _]) hs)) (by omega)) ?_
          rintro e w ⟨v, Lv, rfl, hv, hq5⟩
          refine ⟨_, rfl, ?_⟩
          have ob := hv.form
          obtain ⟨va, vc, rfl⟩ := ob
          replace hs := (hst (L := [_, _]) hs hq5).append_comm
          refine wA <| wZ ?_
          have hvs := fun (w : World) (hs : Step [b] Lv w0 w) => hv.sl (S := [b]) (L := []) (w0 := w0) (w := w) (by rw [List.append_nil]; exact hs)
          have ob := cell_u8 (i := d.length - 1) (hvs _ (Step.dropL (L1 := [_, _, _]) hs)) hi
          obtain ⟨bk, off, rfl, hcell⟩ := ob
          refine cq <| sr <| wm <| wV (run_lenSl u76 rfl) <| wV (run_bF (run_gtr rfl rfl) (by omega)) <| wm <| wy <| wm <| wy <| wV (run_lenSl u76 rfl) <| wy <| wV (run_bT (run_gtr rfl rfl) (by omega)) <| wy <| wm <| wy <| wm <| wy <| wm <| wy <| wV (run_lenSl u76 rfl) <| wy <| wV (run_sub (c := ((d.length - 1 : Nat) : Int)) rfl rfl (by omega) (by omega)) <| wy <| wV (run_ixSlN u76 ty5 rfl rfl (by omega)) ?_
          refine wy <| wl ty5 rfl (hcell) <| wy <| wV (run_bT (run_eql rfl rfl) (by rw [hz]; rfl)) <| wy <| wV (run_pickT rfl) <| wV (run_pickF rfl) <| wZ <| cT rfl <| cr <| wm <| WL.enterX (run_call en127 rfl rfl) (fail_throw (bs := bs) (er := 51) _ (h.next (Step.append_comm (L1 := [_, _]) hs)) (by decide)) ?_
          rintro e w ⟨p', rfl, hq6⟩
          refine ⟨_, rfl, ?_⟩
          exact fin_panic (.err hr.symm (.on (Step.append_comm (L1 := [_, _]) hs) ⟨p', rfl, hq6⟩))
         ·refine calls (n := 57) Tryz.func129 rfl rfl rfl ?_
          refine sr <| WL.alloc ty115 rfl hs (fun b4 w hs => ?_)
          refine wZ <| sr <| wm <| wE rfl (run_call en126 rfl rfl) (num_at h1 _ (h.next (Step.append_comm (L1 := [_]) hs)) hpl) ?_
          rintro e w ⟨rfl, hq⟩
          refine ⟨_, rfl, ?_⟩
          replace hs := (hst (L := [_]) hs hq).append_comm
          refine wV (run_build rfl (bld_kind _ _)) <| WL.alloc ty115 rfl hs (fun b5 w hs => ?_)
          refine WL.storeAll ty115 rfl rfl (rfl) (Ent.cells1 _) (hs) rfl (fun w hs => ?_)
          refine wZ <| cq <| sr <| wF 1 u115 rfl ty3 rfl <| wl ty3 rfl (hs.c0 rfl) <| wV (run_bF (run_neq rfl rfl) (by show ¬ ((1 : Nat) : Int) ≠ 1; decide)) <| wm <| wz <| wz <| wz <| wV (run_pickF rfl) <| wZ <| cF rfl <| ck <| cq ?_
          refine cr <| wm <| wE rfl (run_call en161 rfl rfl) (text_at h2 _ (h.next (Step.append_comm (L1 := [_, _]) hs)) (by omega)) ?_
          rintro e w ⟨rfl, hq2⟩
          refine ⟨_, rfl, ?_⟩
          replace hs := (hst (L := [_, _]) hs hq2).append_comm
          refine wF 0 u115 rfl ty9 rfl <| ws1 ty9 rfl rfl (rfl) (hs) (fun w hs => ?_)
          refine wZ <| sr <| wm <| wF 1 u115 rfl ty3 rfl <| wl ty3 rfl (hs.c0 rfl) <| wF 0 u115 rfl ty9 rfl <| wl ty9 rfl (hs.c0 rfl) <| wm <| wE rfl (run_call en162 rfl rfl) (wrong_spec hw _ (by omega)) ?_
          rintro e w ⟨rfl, hq3⟩
          refine ⟨_, rfl, ?_⟩
          replace hs := hs.callE hq3
          refine wE rfl (run_call en127 rfl rfl) (fail_none (bs := bs) _ (h.next (Step.append_comm (L1 := [_, _]) hs))) ?_
          rintro e w ⟨rfl, hq4⟩
          refine ⟨_, rfl, ?_⟩
          replace hs := (hst (L := [_, _]) hs hq4).append_comm
          refine wZ <| sr <| wm <| wE rfl (run_call en140 rfl rfl) (bytes_at h3 _ (h.next (Step.append_comm (L1 := [_, _]) hs)) (by omega)) ?_
          rintro e w ⟨v, Lv, rfl, hv, hq5⟩
          refine ⟨_, rfl, ?_⟩
          have ob := hv.form
          obtain ⟨va, vc, rfl⟩ := ob
          replace hs := (hst (L := [_, _]) hs hq5).append_comm
          refine wA <| wZ ?_
          have hvs := fun (w : World) (hs : Step [b] Lv w0 w) => hv.sl (S := [b]) (L := []) (w0 := w0) (w := w) (by rw [List.append_nil]; exact hs)
          have ob := cell_u8 (i := d.length - 1) (hvs _ (Step.dropL (L1 := [_, _, _]) hs)) hi
          obtain ⟨bk, off, rfl, hcell⟩ := ob
          refine cq <| sr <| wm <| wV (run_lenSl u76 rfl) <| wV (run_bF (run_gtr rfl rfl) (by omega)) <| wm <| wy <| wm <| wy <| wV (run_lenSl u76 rfl) <| wy <| wV (run_bT (run_gtr rfl rfl) (by omega)) <| wy <| wm <| wy <| wm <| wy <| wm <| wy <| wV (run_lenSl u76 rfl) <| wy <| wV (run_sub (c := ((d.length - 1 : Nat) : Int)) rfl rfl (by omega) (by omega)) <| wy <| wV (run_ixSlN u76 ty5 rfl rfl (by omega)) ?_
          refine wy <| wl ty5 rfl (hcell) <| wy <| wV (run_bT (run_eql rfl rfl) (by rw [hz]; rfl)) <| wy <| wV (run_pickT rfl) <| wV (run_pickF rfl) <| wZ <| cT rfl <| cr <| wm <| WL.enterX (run_call en127 rfl rfl) (fail_throw (bs := bs) (er := 51) _ (h.next (Step.append_comm (L1 := [_, _]) hs)) (by decide)) ?_
          rintro e w ⟨p', rfl, hq6⟩
          refine ⟨_, rfl, ?_⟩
          exact fin_panic (.err hr.symm (.on (Step.append_comm (L1 := [_, _]) hs) ⟨p', rfl, hq6⟩))
        ·have hz' : ¬ ((d[d.length - 1].toNat : Int) = 0) := fun h => hz (UInt8.toNat_inj.1 (by simpa using h))
         rw [if_neg (show ¬ badD d from fun h => h.elim hd1 (fun h => hz (by have := h.2; rw [hla] at this; exact Option.some.inj this)))] at hr
         rcases hk with rfl | rfl
         ·refine calls (n := 57) Tryz.func129 rfl rfl rfl ?_
          refine sr <| WL.alloc ty115 rfl hs (fun b4 w hs => ?_)
          refine wZ <| sr <| wm <| wE rfl (run_call en126 rfl rfl) (num_at h1 _ (h.next (Step.append_comm (L1 := [_]) hs)) hpl) ?_
          rintro e w ⟨rfl, hq⟩
          refine ⟨_, rfl, ?_⟩
          replace hs := (hst (L := [_]) hs hq).append_comm
          refine wV (run_build rfl (bld_kind _ _)) <| WL.alloc ty115 rfl hs (fun b5 w hs => ?_)
          refine WL.storeAll ty115 rfl rfl (rfl) (Ent.cells1 _) (hs) rfl (fun w hs => ?_)
          refine wZ <| cq <| sr <| wF 1 u115 rfl ty3 rfl <| wl ty3 rfl (hs.c0 rfl) <| wV (run_bT (run_neq rfl rfl) (by show ((2 : Nat) : Int) ≠ 1; decide)) <| wm <| wy <| wF 1 u115 rfl ty3 rfl <| wy <| wl ty3 rfl (hs.c0 rfl) <| wy <| wV (run_bF (run_neq rfl rfl) (by show ¬ ((2 : Nat) : Int) ≠ 2; decide)) <| wV (run_pickT rfl) <| wZ ?_
          refine cF rfl <| ck <| sr <| wm <| wE rfl (run_call en161 rfl rfl) (text_at h2 _ (h.next (Step.append_comm (L1 := [_, _]) hs)) (by omega)) ?_
          rintro e w ⟨rfl, hq2⟩
          refine ⟨_, rfl, ?_⟩
          replace hs := (hst (L := [_, _]) hs hq2).append_comm
          refine wF 0 u115 rfl ty9 rfl <| ws1 ty9 rfl rfl (rfl) (hs) (fun w hs => ?_)
          refine wZ <| sr <| wm <| wF 1 u115 rfl ty3 rfl <| wl ty3 rfl (hs.c0 rfl) <| wF 0 u115 rfl ty9 rfl <| wl ty9 rfl (hs.c0 rfl) <| wm <| wE rfl (run_call en162 rfl rfl) (wrong_spec hw _ (by omega)) ?_
          rintro e w ⟨rfl, hq3⟩
          refine ⟨_, rfl, ?_⟩
          replace hs := hs.callE hq3
          refine wE rfl (run_call en127 rfl rfl) (fail_none (bs := bs) _ (h.next (Step.append_comm (L1 := [_, _]) hs))) ?_
          rintro e w ⟨rfl, hq4⟩
          refine ⟨_, rfl, ?_⟩
          replace hs := (hst (L := [_, _]) hs hq4).append_comm
          refine wZ <| sr <| wm <| wE rfl (run_call en140 rfl rfl) (bytes_at h3 _ (h.next (Step.append_comm (L1 := [_, _]) hs)) (by omega)) ?_
          rintro e w ⟨v, Lv, rfl, hv, hq5⟩
          refine ⟨_, rfl, ?_⟩
          have ob := hv.form
          obtain ⟨va, vc, rfl⟩ := ob
          replace hs := (hst (L := [_, _]) hs hq5).append_comm
          refine wA <| wZ ?_
          have hvs := fun (w : World) (hs : Step [b] Lv w0 w) => hv.sl (S := [b]) (L := []) (w0 := w0) (w := w) (by rw [List.append_nil]; exact hs)
          have ob := cell_u8 (i := d.length - 1) (hvs _ (Step.dropL (L1 := [_, _, _]) hs)) hi
          obtain ⟨bk, off, rfl, hcell⟩ := ob
          refine cq <| sr <| wm <| wV (run_lenSl u76 rfl) <| wV (run_bF (run_gtr rfl rfl) (by omega)) <| wm <| wy <| wm <| wy <| wV (run_lenSl u76 rfl) <| wy <| wV (run_bT (run_gtr rfl rfl) (by omega)) <| wy <| wm <| wy <| wm <| wy <| wm <| wy <| wV (run_lenSl u76 rfl) <| wy <| wV (run_sub (c := ((d.length - 1 : Nat) : Int)) rfl rfl (by omega) (by omega)) <| wy <| wV (run_ixSlN u76 ty5 rfl rfl (by omega)) ?_
          refine wy <| wl ty5 rfl (hcell) <| wy <| wV (run_bF (run_eql rfl rfl) (by exact hz')) <| wy <| wV (run_pickT rfl) <| wV (run_pickF rfl) <| wZ <| cF rfl <| ck <| sr <| wF 2 u115 rfl ty44 rfl <| wV (run_sliceArr0 u44 ty5 rfl) <| wm ?_
          refine WL.copy u76 ty5 rfl rfl (hs) ((hvs _ (Step.dropL (L1 := [_, _, _]) hs))) (Cells1.u8s d) (by first | omega | exact Nat.le_of_ble_eq_true rfl | (simp [Ent.cells, u8s]; done)) (fun k hk => by cases hk; rfl) (fun w hs => ⟨fun k hk => ?_, fun h => by cases h⟩)
          cases hk
          refine wZ ?_
          replace hs := hs.cast (pad_splice _ s d (by omega))
          have hpl : ∀ k : Nat, (Ent.cells ⟨s, k, padD d⟩).length = 34 := fun k => by simp [Ent.cells, u8s, padD]; omega
          refine sr <| wV (run_loadN ty115 rfl (hpl _) hs.a0) <| WL.storeAll ty115 rfl rfl (hpl _) (Ent.cells1 _) (hs.swap) rfl (fun w hs => ?_)
          refine wZ <| CW.ret ?_
          refine fin_cell1 rfl rfl (run_loadVarN ty115 (hpl _) hs.a0) ?_
          exact .ok hr.symm rfl (Step.dropR (L1 := [_]) (Step.dropL (L1 := [_, _]) hs))
         ·refine calls (n := 57) Tryz.func129 rfl rfl rfl ?_
          refine sr <| WL.alloc ty115 rfl hs (fun b4 w hs => ?_)
          refine wZ <| sr <| wm <| wE rfl (run_call en126 rfl rfl) (num_at h1 _ (h.next (Step.append_comm (L1 := [_]) hs)) hpl) ?_
          rintro e w ⟨rfl, hq⟩
          refine ⟨_, rfl, ?_⟩
          replace hs := (hst (L := [_]) hs hq).append_comm
          refine wV (run_build rfl (bld_kind _ _)) <| WL.alloc ty115 rfl hs (fun b5 w hs => ?_)
          refine WL.storeAll ty115 rfl rfl (rfl) (Ent.cells1 _) (hs) rfl (fun w hs => ?_)
          refine wZ <| cq <| sr <| wF 1 u115 rfl ty3 rfl <| wl ty3 rfl (hs.c0 rfl) <| wV (run_bF (run_neq rfl rfl) (by show ¬ ((1 : Nat) : Int) ≠ 1; decide)) <| wm <| wz <| wz <| wz <| wV (run_pickF rfl) <| wZ <| cF rfl <| ck <| cq ?_
          refine cr <| wm <| wE rfl (run_call en161 rfl rfl) (text_at h2 _ (h.next (Step.append_comm (L1 := [_, _]) hs)) (by omega)) ?_
          rintro e w ⟨rfl, hq2⟩
          refine ⟨_, rfl, ?_⟩
          replace hs := (hst (L := [_, _]) hs hq2).append_comm
          refine wF 0 u115 rfl ty9 rfl <| ws1 ty9 rfl rfl (rfl) (hs) (fun w hs => ?_)
          refine wZ <| sr <| wm <| wF 1 u115 rfl ty3 rfl <| wl ty3 rfl (hs.c0 rfl) <| wF 0 u115 rfl ty9 rfl <| wl ty9 rfl (hs.c0 rfl) <| wm <| wE rfl (run_call en162 rfl rfl) (wrong_spec hw _ (by omega)) ?_
          rintro e w ⟨rfl, hq3⟩
          refine ⟨_, rfl, ?_⟩
          replace hs := hs.callE hq3
          refine wE rfl (run_call en127 rfl rfl) (fail_none (bs := bs) _ (h.next (Step.append_comm (L1 := [_, _]) hs))) ?_
          rintro e w ⟨rfl, hq4⟩
          refine ⟨_, rfl, ?_⟩
          replace hs := (hst (L := [_, _]) hs hq4).append_comm
          refine wZ <| sr <| wm <| wE rfl (run_call en140 rfl rfl) (bytes_at h3 _ (h.next (Step.append_comm (L1 := [_, _]) hs)) (by omega)) ?_
          rintro e w ⟨v, Lv, rfl, hv, hq5⟩
          refine ⟨_, rfl, ?_⟩
          have ob := hv.form
          obtain ⟨va, vc, rfl⟩ := ob
          replace hs := (hst (L := [_, _]) hs hq5).append_comm
          refine wA <| wZ ?_
          have hvs := fun (w : World) (hs : Step [b] Lv w0 w) => hv.sl (S := [b]) (L := []) (w0 := w0) (w := w) (by rw [List.append_nil]; exact hs)
          have ob := cell_u8 (i := d.length - 1) (hvs _ (Step.dropL (L1 := [_, _, _]) hs)) hi
          obtain ⟨bk, off, rfl, hcell⟩ := ob
          refine cq <| sr <| wm <| wV (run_lenSl u76 rfl) <| wV (run_bF (run_gtr rfl rfl) (by omega)) <| wm <| wy <| wm <| wy <| wV (run_lenSl u76 rfl) <| wy <| wV (run_bT (run_gtr rfl rfl) (by omega)) <| wy <| wm <| wy <| wm <| wy <| wm <| wy <| wV (run_lenSl u76 rfl) <| wy <| wV (run_sub (c := ((d.length - 1 : Nat) : Int)) rfl rfl (by omega) (by omega)) <| wy <| wV (run_ixSlN u76 ty5 rfl rfl (by omega)) ?_
          refine wy <| wl ty5 rfl (hcell) <| wy <| wV (run_bF (run_eql rfl rfl) (by exact hz')) <| wy <| wV (run_pickT rfl) <| wV (run_pickF rfl) <| wZ <| cF rfl <| ck <| sr <| wF 2 u115 rfl ty44 rfl <| wV (run_sliceArr0 u44 ty5 rfl) <| wm ?_
          refine WL.copy u76 ty5 rfl rfl (hs) ((hvs _ (Step.dropL (L1 := [_, _, _]) hs))) (Cells1.u8s d) (by first | omega | exact Nat.le_of_ble_eq_true rfl | (simp [Ent.cells, u8s]; done)) (fun k hk => by cases hk; rfl) (fun w hs => ⟨fun k hk => ?_, fun h => by cases h⟩)
          cases hk
          refine wZ ?_
          replace hs := hs.cast (pad_splice _ s d (by omega))
          have hpl : ∀ k : Nat, (Ent.cells ⟨s, k, padD d⟩).length = 34 := fun k => by simp [Ent.cells, u8s, padD]; omega
          refine sr <| wV (run_loadN ty115 rfl (hpl _) hs.a0) <| WL.storeAll ty115 rfl rfl (hpl _) (Ent.cells1 _) (hs.swap) rfl (fun w hs => ?_)
          refine wZ <| CW.ret ?_
          refine fin_cell1 rfl rfl (run_loadVarN ty115 (hpl _) hs.a0) ?_
          exact .ok hr.symm rfl (Step.dropR (L1 := [_]) (Step.dropL (L1 := [_, _]) hs))
    ·rw [if_neg hw] at hr
     have hw1 := wrongE_51 hw
     rcases hk with rfl | rfl
     ·refine calls (n := 57) Tryz.func129 rfl rfl rfl ?_
      refine sr <| WL.alloc ty115 rfl hs (fun b4 w hs => ?_)
      refine wZ <| sr <| wm <| wE rfl (run_call en126 rfl rfl) (num_at h1 _ (h.next (Step.append_comm (L1 := [_]) hs)) hpl) ?_
      rintro e w ⟨rfl, hq⟩
      refine ⟨_, rfl, ?_⟩
      replace hs := (hst (L := [_]) hs hq).append_comm
      refine wV (run_build rfl (bld_kind _ _)) <| WL.alloc ty115 rfl hs (fun b5 w hs => ?_)
      refine WL.storeAll ty115 rfl rfl (rfl) (Ent.cells1 _) (hs) rfl (fun w hs => ?_)
      refine wZ <| cq <| sr <| wF 1 u115 rfl ty3 rfl <| wl ty3 rfl (hs.c0 rfl) <| wV (run_bT (run_neq rfl rfl) (by show ((2 : Nat) : Int) ≠ 1; decide)) <| wm <| wy <| wF 1 u115 rfl ty3 rfl <| wy <| wl ty3 rfl (hs.c0 rfl) <| wy <| wV (run_bF (run_neq rfl rfl) (by show ¬ ((2 : Nat) : Int) ≠ 2; decide)) <| wV (run_pickT rfl) <| wZ ?_
      refine cF rfl <| ck <| sr <| wm <| wE rfl (run_call en161 rfl rfl) (text_at h2 _ (h.next (Step.append_comm (L1 := [_, _]) hs)) (by omega)) ?_
      rintro e w ⟨rfl, hq2⟩
      refine ⟨_, rfl, ?_⟩
      replace hs := (hst (L := [_, _]) hs hq2).append_comm
      refine wF 0 u115 rfl ty9 rfl <| ws1 ty9 rfl rfl (rfl) (hs) (fun w hs => ?_)
      refine wZ <| sr <| wm <| wF 1 u115 rfl ty3 rfl <| wl ty3 rfl (hs.c0 rfl) <| wF 0 u115 rfl ty9 rfl <| wl ty9 rfl (hs.c0 rfl) <| wm <| wE rfl (run_call en162 rfl rfl) (wrong_spec hw1 _ (by omega)) ?_
      rintro e w ⟨rfl, hq3⟩
      refine ⟨_, rfl, ?_⟩
      replace hs := hs.callE hq3
      refine WL.enterX (run_call en127 rfl rfl) (fail_throw (bs := bs) (er := 51) _ (h.next (Step.append_comm (L1 := [_, _]) hs)) (by decide)) ?_
      rintro e w ⟨p', rfl, hq4⟩
      refine ⟨_, rfl, ?_⟩
      exact fin_panic (.err hr.symm (.on (Step.append_comm (L1 := [_, _]) hs) ⟨p', rfl, hq4⟩))
     ·refine calls (n := 57) Tryz.func129 rfl rfl rfl ?_
      refine sr <| WL.alloc ty115 rfl hs (fun b4 w hs => ?_)
      refine wZ <| sr <| wm <| wE rfl (run_call en126 rfl rfl) (num_at h1 _ (h.next (Step.append_comm (L1 := [_]) hs)) hpl) ?_
      rintro e w ⟨rfl, hq⟩
      refine ⟨_, rfl, ?_⟩
      replace hs := (hst (L := [_]) hs hq).append_comm
      refine wV (run_build rfl (bld_kind _ _)) <| WL.alloc ty115 rfl hs (fun b5 w hs => ?_)
      refine WL.storeAll ty115 rfl rfl (rfl) (Ent.cells1 _) (hs) rfl (fun w hs => ?_)
      refine wZ <| cq <| sr <| wF 1 u115 rfl ty3 rfl <| wl ty3 rfl (hs.c0 rfl) <| wV (run_bF (run_neq rfl rfl) (by show ¬ ((1 : Nat) : Int) ≠ 1; decide)) <| wm <| wz <| wz <| wz <| wV (run_pickF rfl) <| wZ <| cF rfl <| ck <| cq ?_
      refine cr <| wm <| wE rfl (run_call en161 rfl rfl) (text_at h2 _ (h.next (Step.append_comm (L1 := [_, _]) hs)) (by omega)) ?_
      rintro e w ⟨rfl, hq2⟩
      refine ⟨_, rfl, ?_⟩
      replace hs := (hst (L := [_, _]) hs hq2).append_comm
      refine wF 0 u115 rfl ty9 rfl <| ws1 ty9 rfl rfl (rfl) (hs) (fun w hs => ?_)
      refine wZ <| sr <| wm <| wF 1 u115 rfl ty3 rfl <| wl ty3 rfl (hs.c0 rfl) <| wF 0 u115 rfl ty9 rfl <| wl ty9 rfl (hs.c0 rfl) <| wm <| wE rfl (run_call en162 rfl rfl) (wrong_spec hw1 _ (by omega)) ?_
      rintro e w ⟨rfl, hq3⟩
      refine ⟨_, rfl, ?_⟩
      replace hs := hs.callE hq3
      refine WL.enterX (run_call en127 rfl rfl) (fail_throw (bs := bs) (er := 51) _ (h.next (Step.append_comm (L1 := [_, _]) hs)) (by decide)) ?_
      rintro e w ⟨p', rfl, hq4⟩
      refine ⟨_, rfl, ?_⟩
      exact fin_panic (.err hr.symm (.on (Step.append_comm (L1 := [_, _]) hs) ⟨p', rfl, hq4⟩))
  ·rw [if_neg hk] at hr
   refine calls (n := 57) Tryz.func129 rfl rfl rfl ?_
   refine sr <| WL.alloc ty115 rfl hs (fun b4 w hs => ?_)
   refine wZ <| sr <| wm <| wE rfl (run_call en126 rfl rfl) (num_at h1 _ (h.next (Step.append_comm (L1 := [_]) hs)) hpl) ?_
   rintro e w ⟨rfl, hq⟩
   refine ⟨_, rfl, ?_⟩
   replace hs := (hst (L := [_]) hs hq).append_comm
   refine wV (run_build rfl (bld_kind _ _)) <| WL.alloc ty115 rfl hs (fun b5 w hs => ?_)
   refine WL.storeAll ty115 rfl rfl (rfl) (Ent.cells1 _) (hs) rfl (fun w hs => ?_)
   refine wZ <| cq <| sr <| wF 1 u115 rfl ty3 rfl <| wl ty3 rfl (hs.c0 rfl) <| wV (run_bT (run_neq rfl rfl) (by show (k : Int) ≠ 1; omega)) <| wm <| wy <| wF 1 u115 rfl ty3 rfl <| wy <| wl ty3 rfl (hs.c0 rfl) <| wy <| wV (run_bT (run_neq rfl rfl) (by show (k : Int) ≠ 2; omega)) <| wV (run_pickT rfl) <| wZ <| cT rfl <| cr <| wm ?_
   refine WL.enterX (run_call en127 rfl rfl) (fail_throw (bs := bs) (er := 51) _ (h.next (Step.append_comm (L1 := [_, _]) hs)) (by decide)) ?_
   rintro e w ⟨p', rfl, hq2⟩
   refine ⟨_, rfl, ?_⟩
   exact fin_panic (.err hr.symm (.on (Step.append_comm (L1 := [_, _]) hs) ⟨p', rfl, hq2⟩))
def entsP (bs : List UInt8) : Nat → List UInt8 → Nat → Except Int (List Ent × Nat)
 | 0, _, p => .ok ([], p)
 | n + 1, a, p =>
  match entP a bs p with
  | .error e => .error e
  | .ok (x, q) =>
   match entsP bs n x.name q with
   | .error e => .error e
   | .ok (l, r) => .ok (x :: l, r)
def decP (bs : List UInt8) : Except Int (List Ent × Nat) :=
 match numP bs 0 with
 | .error e => .error e
 | .ok (t, p) => if t = 1 then
   match mostP 1024 bs p with
   | .error e => .error e
   | .ok (n, q) => entsP bs n [] q
  else .error 52
def preR (l : List Ent) : Except Int (List Ent × Nat) → Except Int (List Ent × Nat)
 | .error e => .error e
 | .ok (m, q) => .ok (l ++ m, q)
theorem preR_nil (r : Except Int (List Ent × Nat)) : preR [] r = r := by
 rcases r with e | ⟨m, q⟩ <;> rfl
theorem lastN_snoc (l : List Ent) (x : Ent) : lastN (l ++ [x]) = x.name := by simp [lastN]
theorem entsP_step {bs : List UInt8} {n : Nat} {a : List UInt8} {p q : Nat} {x : Ent} (l : List Ent) (h : entP a bs p = .ok (x, q)) : preR l (entsP bs (n + 1) a p) = preR (l ++ [x]) (entsP bs n x.name q) := by
 conv => lhs; unfold entsP
 rw [h]
 simp only
 rcases entsP bs n x.name q with e | ⟨m, r⟩
 ·rfl
 ·simp [preR]
theorem entsP_stop {bs : List UInt8} {n : Nat} {a : List UInt8} {p : Nat} {e : Int} (l : List Ent) (h : entP a bs p = .error e) : preR l (entsP bs (n + 1) a p) = .error e := by
 conv => lhs; unfold entsP
 rw [h]
 rfl
theorem entP_ok {bs a : List UInt8} {p q : Nat} {x : Ent} (hl : bs.length ≤ 1048576) (h : entP a bs p = .ok (x, q)) : x.ok ∧ q ≤ bs.length ∧ p < q ∧ x.name.length ≤ 1048576 := by
 unfold entP at h
 split at h
 ·cases h
 ·rename_i k p1 h1
  have hb1 := numP_ok h1
  split at h
  ·rename_i hk
   split at h
   ·cases h
   ·rename_i s p2 h2
    have hb2 := bytesP_ok h2
    have hl2 := bytesP_len h2
    split at h
    ·split at h
     ·cases h
     ·rename_i d p3 h3
      have hb3 := bytesP_ok h3
      split at h
      ·cases h
      ·rename_i hbad
       injection h with h; injection h with hx hq
       subst hx; subst hq
       have hdl : d.length ≤ 32 := by
        rcases Nat.lt_or_ge 32 d.length with h' | h'
        ·exact absurd (.inl h') hbad
        ·exact h'
       refine ⟨⟨?_, ?_, ?_, ?_⟩, hb3.1, by omega, ?_⟩
       ·simp [padD]; omega
       ·show -9223372036854775808 ≤ (k : Int)
        omega
       ·show (k : Int) ≤ 9223372036854775807
        omega
       ·show s.length ≤ _
        omega
       ·show s.length ≤ _
        omega
    ·cases h
  ·cases h
def DecR (b bl : Nat) (bv : Value) (w0 : World) : Except Int (List Ent × Nat) → Ending → World → Prop
 | .ok (l, q), e, w' => ∃ v Lv, e = .returned (.tuple #[]) ∧ OwnSl 115 34 v l.length (rows l) Lv ∧ Oks l ∧ l.length ≤ 1024 ∧ q ≤ 1048576 ∧ Step [b, bl] (RdB b bv q :: (bl, blk 116 [v]) :: Lv) w0 w'
 | .error er, e, w' => ∃ p v Lv, e = .panicked (pch b) ∧ v.oneCell' = true ∧ Step [b, bl] (RF b bv p er :: (bl, blk 116 [v]) :: Lv) w0 w'
theorem DecR.err {b bl : Nat} {bv : Value} {w0 w w' : World} {er : Int} {r : Except Int (List Ent × Nat)} {p : Nat} {v : Value} {Lv : List (Nat × Obj)} {e : Ending} (hr : r = .error er) (hv : v.oneCell' = true) (hs : Step [b, bl] (RdB b bv p :: (bl, blk 116 [v]) :: Lv) w0 w) (h : Thrown b bv er w e w') : DecR b bl bv w0 r e w' := by
 subst hr
 obtain ⟨p', he, h⟩ := h
 exact ⟨p', v, Lv, he, hv, Step.call (L1 := [RdB b bv p]) hs h⟩
theorem dec2_at {b bl : Nat} {bs : List UInt8} {bv : Value} {r : Except Int (List Ent × Nat)} (hr : decP bs = r) (w0 : World) (hsl : Sl w0 1 bv bs.length (u8s bs)) (hout : Outside bv [b, bl]) (hroom : Room bv) (hlen : bs.length ≤ 1048576)
  (hO : Step [b, bl] (RdB b bv 0 :: (bl, blk 116 [.slice none 0 0]) :: []) w0 w0) : Calls Tryz.prog 125 #[.pointer (some ⟨b, 0, none⟩), .pointer (some ⟨bl, 0, none⟩)] w0 (DecR b bl bv w0 r) := by
 have hs := hO
 have hout1 : Outside bv [b] := by
  unfold Outside at hout ⊢
  split
  ·intro h; exact hout (by simp at h ⊢; exact .inl h)
  ·trivial
 have rd : ∀ {w : World} {p : Nat} {L : List (Nat × Obj)}, Step [b, bl] (RdB b bv p :: L) w0 w → RdOk w b bs bv p := fun h => ⟨Step.own (L1 := [_]) h, hsl.step h hout, hout1, hroom, hlen⟩
 have hst : ∀ {w w' : World} {p : Nat} {L L2 : List (Nat × Obj)}, Step [b, bl] (RdB b bv p :: L) w0 w → Step [b] L2 w w' → Step [b, bl] (L2 ++ L) w0 w' := fun h h2 => Step.call (L1 := [RdB b bv _]) h h2
 unfold decP at hr
 cases h1 : numP bs 0 with
 | error er =>
  rw [h1] at hr
  refine calls (n := 24) Tryz.func125 rfl rfl rfl ?_
  refine cq <| sr <| wm <| WL.enterX (run_call en126 rfl rfl) (num_at h1 _ (rd hs) (by omega)) ?_
  rintro e w ⟨p', rfl, hq⟩
  refine ⟨_, rfl, ?_⟩
  exact fin_panic (.err hr.symm rfl hs ⟨p', rfl, hq⟩)
 | ok tp =>
  obtain ⟨t, p1⟩ := tp
  rw [h1] at hr
  have hb1 := numP_ok h1
  simp only at hr
  by_cases ht : t = 1
  ·rw [if_pos ht] at hr
   subst ht
   cases h2 : mostP 1024 bs p1 with
   | error er =>
    rw [h2] at hr
    refine calls (n := 24) Tryz.func125 rfl rfl rfl ?_
    refine cq <| sr <| wm <| wE rfl (run_call en126 rfl rfl) (num_at h1 _ (rd hs) (by omega)) ?_
    rintro e w ⟨rfl, hq⟩
    refine ⟨_, rfl, ?_⟩
    replace hs := hst hs hq
    refine wV (run_bF (run_neq rfl rfl) (by show ¬ ((1 : Nat) : Int) ≠ 1; decide)) <| wZ <| cF rfl <| ck <| sr <| wA <| wZ <| sr <| wm <| WL.enterX (run_call en128 rfl rfl) (most_at h2 _ (rd hs) hb1.1) ?_
    rintro e w ⟨p', rfl, hq2⟩
    refine ⟨_, rfl, ?_⟩
    exact fin_panic (.err hr.symm rfl hs ⟨p', rfl, hq2⟩)
   | ok nq =>
    obtain ⟨n, q0⟩ := nq
    rw [h2] at hr
    have hb2 := mostP_ok h2
    simp only at hr
    refine calls (n := 24) Tryz.func125 rfl rfl rfl ?_
    refine cq <| sr <| wm <| wE rfl (run_call en126 rfl rfl) (num_at h1 _ (rd hs) (by omega)) ?_
    rintro e w ⟨rfl, hq⟩
    refine ⟨_, rfl, ?_⟩
    replace hs := hst hs hq
    refine wV (run_bF (run_neq rfl rfl) (by show ¬ ((1 : Nat) : Int) ≠ 1; decide)) <| wZ <| cF rfl <| ck <| sr <| wA <| wZ <| sr <| wm <| wE rfl (run_call en128 rfl rfl) (most_at h2 _ (rd hs) hb1.1) ?_
    rintro e w ⟨rfl, hq2⟩
    refine ⟨_, rfl, ?_⟩
    replace hs := hst hs hq2
    refine wm <| wZ <| cB <| CW.loop (fun m f w' => ∃ i l q v Lv, i ≤ n ∧ m = n - i ∧ q ≤ bs.length ∧ l.length = i ∧ r = preR l (entsP bs (n - i) (lastN l) q) ∧ OwnSl 115 34 v l.length (rows l) Lv ∧ Oks l ∧ (lastN l).length ≤ 1048576 ∧ Step [b, bl] (RdB b bv q :: (bl, blk 116 [v]) :: Lv) w0 w' ∧ Holds f [(0, .pointer (some ⟨b, 0, none⟩)), (1, .pointer (some ⟨bl, 0, none⟩)), (3, str (lastN l)), (11, .int .i64 n), (12, .int .i64 i)]) (m := n) ?_ ?_
    ·exact ⟨0, [], q0, _, [], by omega, by omega, hb2.1, rfl, by rw [preR_nil]; exact hr.symm, .nil _ _, Oks.nil, by simp [lastN], hs, rfl, rfl, rfl, rfl, rfl, trivial⟩
    ·rintro m f w ⟨i, l, q, v, Lv, hi, rfl, hq0, hll, hr, hv, hok, hla, hs, hf⟩
     have ob := hf.chain
     obtain ⟨g, rfl⟩ := ob
     refine sr <| wV (run_lss rfl rfl) <| wZ <| cq <| CW.condP rfl (fun h => ?_) (fun h => ?_)
     ·have hlt : i < n := by omega
      have ob : ∃ j, n - i = j + 1 := ⟨n - i - 1, by omega⟩
      obtain ⟨j, hj⟩ := ob
      rw [hj] at hr
      cases h3 : entP (lastN l) bs q with
      | error er =>
       rw [entsP_stop l h3] at hr
       refine ck <| cq <| cB <| sr <| wm <| wm <| WL.enterX (run_call en129 rfl rfl) (entry_at h3 _ (rd hs) hq0 (by omega)) ?_
       rintro e w ⟨p', rfl, hq3⟩
       refine ⟨_, rfl, ?_⟩
       exact fin_panic (.err hr hv.one hs ⟨p', rfl, hq3⟩)
      | ok xq =>
       obtain ⟨x, q'⟩ := xq
       rw [entsP_step l h3] at hr
       have hxo := entP_ok hlen h3
       have ob := hv.form
       obtain ⟨va, vc, rfl⟩ := ob
       have hxl := Ent.cells_len hxo.1
       refine ck <| cq <| cB <| sr <| wm <| wm <| wE rfl (run_call en129 rfl rfl) (entry_at h3 _ (rd hs) hq0 (by omega)) ?_
       rintro e w ⟨rfl, hq3⟩
       refine ⟨_, rfl, ?_⟩
       replace hs := hst hs hq3
       refine WL.alloc ty115 rfl hs (fun b4 w hs => ?_)
       refine WL.storeAll ty115 rfl rfl (hxl) (x.cells1) (hs) rfl (fun w hs => ?_)
       refine wZ <| CW.any (A := fun w => Step [b, bl] [(b4, blk 115 x.cells), RdB b bv q'] w0 w) (C := fun w => Step [b, bl] [(b4, blk 115 x.cells), RdB b bv q', (bl, blk 116 [.slice va l.length vc])] w0 w) 6 8 mixedP rfl ?_
       replace hs := hs.drew
       refine AL.val 0 rfl (by kernel_rfl) rfl (fun w hs => run_load1 ty116 rfl (hs.tail.tail.c0 rfl)) ?_
       refine AL.val 1 rfl (by kernel_rfl) rfl (fun w hs => run_loadN ty115 rfl hxl hs.a0) ?_
       refine AL.valA 4 rfl (by kernel_rfl) rfl (fun w hs => run_field (o' := 0) u115 rfl ty9 rfl rfl rfl) ?_
       refine AL.valA 5 rfl (by kernel_rfl) rfl (fun w hs => run_load1 ty9 rfl (hs.c0 rfl)) ?_
       refine AL.one 2 (by kernel_rfl) rfl (Step.dropR (L1 := [_, _]) hs) (Step.dropR (L1 := [_, _, _]) hs) ?_
       refine WL.buildSlice (cs := x.cells) u116 ty115 rfl (by decide) rfl (filled1 hxl rfl) rfl hs (fun b19 w hs => ?_)
       have hsl19 : Sl w 34 (.slice (some ⟨b19, 0, none⟩) 1 1) 1 x.cells := .own1 hs (by rw [hxl])
       replace hs : Step [b, bl] ([_, _, _] ++ (Lv ++ [_])) w0 w := hs.rot1
       refine wZ <| ⟨rfl, ?_⟩
       refine AL.one 3 (by kernel_rfl) rfl (Step.dropR (L1 := [_, _]) hs) (Step.dropR (L1 := [_, _, _]) hs) ?_
       refine WL.append u116 u116 ty115 rfl (by decide) rfl rfl (hv) ((by have := hs.append_comm; rw [List.append_assoc] at this; exact this)) (hsl19) (x.cells1) (by first | omega | (simp only [List.length_append, List.length_cons, List.length_nil]; omega)) rfl (fun v20 Lv20 w hv20 hs => ?_)
       replace hs := Step.tail (Step.append_comm hs)
       refine wZ <| ⟨rfl, ?_⟩
       refine AL.one 6 (by kernel_rfl) rfl (Step.dropR (L1 := [_, _]) hs) (Step.dropR (L1 := [_, _, _]) hs) ?_
       refine ws1 ty116 rfl rfl (hv20.one) (hs.rot3) (fun w hs => ?_)
       replace hs := hs.rot3.rot3
       refine wZ <| ⟨rfl, ?_⟩
       refine AL.relax (by kernel_rfl) ?_
       refine AL.valA 7 rfl (by kernel_rfl) rfl (fun w hs => run_assign) ?_
       refine AL.end (by kernel_rfl) (Step.dropR (L1 := [_, _]) hs) (trivial) ?_
       replace hs := hs.tail
       refine cr <| wV (run_add (c := ((i + 1 : Nat) : Int)) rfl rfl (by omega) (by omega)) <| wm <| wZ <| (show _ ∧ _ from ⟨rfl, _, ?_, i + 1, l ++ [x], q', _, _, by omega, rfl, hxo.2.1, ?_, ?_, ?_, hok.append (Oks.one hxo.1), ?_, hs, rfl, rfl, ?_, rfl, rfl, trivial⟩)
       ·omega
       ·simp [hll]
       ·rw [hr, lastN_snoc, show n - (i + 1) = j by omega]
       ·rw [List.length_append, rows_append, rows_one]
        exact hv20
       ·rw [lastN_snoc]; exact hxo.2.2.2
       ·rw [lastN_snoc]; rfl
     ·obtain rfl : i = n := by omega
      refine CW.exit <| fin_end0 rfl ?_
      have e : r = .ok (l, q) := by
       rw [hr, show i - i = 0 by omega]
       simp [entsP, preR]
      rw [e]
      exact ⟨v, Lv, rfl, hv, hok, by omega, by omega, hs⟩
  ·rw [if_neg ht] at hr
   refine calls (n := 24) Tryz.func125 rfl rfl rfl ?_
   refine cq <| sr <| wm <| wE rfl (run_call en126 rfl rfl) (num_at h1 _ (rd hs) (by omega)) ?_
   rintro e w ⟨rfl, hq⟩
   refine ⟨_, rfl, ?_⟩
   replace hs := hst hs hq
   refine wV (run_bT (run_neq rfl rfl) (by show (t : Int) ≠ 1; omega)) <| wZ <| cT rfl <| cr <| wm <| WL.enterX (run_call en127 rfl rfl) (fail_throw (bs := bs) (er := 52) _ (rd hs) (by decide)) ?_
   rintro e w ⟨p', rfl, hq2⟩
   refine ⟨_, rfl, ?_⟩
   exact fin_panic (.err hr.symm rfl hs ⟨p', rfl, hq2⟩)
section
variable {P : Program} {f : Slots} {w : World} {d : Option Tmp} {ty : TypeId} {pos : String} {af : Array Edge} {x y : Operand} {I T' : TypeId}
theorem run_neqIfaceNil {ms : _} {T : TypeId} {v : Value} (ht : P.underlying I = some (.interface ms)) (hx : ev f x = .iface T v) :
  (execOp (ev f) ⟨d, .binOp .neq I x (.const .nilIface) T', ty, pos, af, none⟩).run P w = .ok (.value (.bool true)) w := by
 have e : ev f (.const .nilIface) = .nilIface := rfl
 have h0 : ∀ d, (Op.equalIn (d + 1) I (.iface T v) .nilIface).run P w = .ok false w := fun d => by simp [Op.equalIn, run_underlying ht]
 have h : (Op.equal I (.iface T v) .nilIface).run P w = .ok false w := h0 9999
 simp [execOp, hx, e, eqGuard, binOp, h]
theorem run_neqNilNil {ms : _} (ht : P.underlying I = some (.interface ms)) (hx : ev f x = .nilIface) :
  (execOp (ev f) ⟨d, .binOp .neq I x (.const .nilIface) T', ty, pos, af, none⟩).run P w = .ok (.value (.bool false)) w := by
 have e : ev f (.const .nilIface) = .nilIface := rfl
 have h0 : ∀ d, (Op.equalIn (d + 1) I .nilIface .nilIface).run P w = .ok true w := fun d => by simp [Op.equalIn, run_underlying ht]
 have h : (Op.equal I .nilIface .nilIface).run P w = .ok true w := h0 9999
 simp [execOp, hx, e, eqGuard, binOp, h]
theorem run_neqPtrSame {E : TypeId} {agg : Bool} {n by_ : Nat} {zs : List Value} {a : Addr} (ht : P.underlying I = some (.pointer E)) (hE : Ty P E agg n by_ zs) (hn : n ≠ 0) (hx : ev f x = .pointer (some a)) (hy : ev f y = .pointer (some a)) :
  (execOp (ev f) ⟨d, .binOp .neq I x y T', ty, pos, af, none⟩).run P w = .ok (.value (.bool false)) w := by
 have h0 : ∀ d, (Op.equalIn (d + 1) I (.pointer (some a)) (.pointer (some a))).run P w = .ok true w := fun d => by simp [Op.equalIn, run_underlying ht, run_sizeOf hE, hn, sameAddr]
 have h : (Op.equal I (.pointer (some a)) (.pointer (some a))).run P w = .ok true w := h0 9999
 simp [execOp, hx, hy, eqGuard, binOp, h]
theorem run_tA {v r : Value} {T A : TypeId} {ok : Bool} (hx : ev f x = v) (h : (Instr.typeAssert v T A ok).run P w = .ok r w) :
  (execOp (ev f) ⟨d, .typeAssert x T A ok, ty, pos, af, none⟩).run P w = .ok (.value r) w := by
 simp [execOp, hx, h]
end
theorem tA_nil (w : World) : (Instr.typeAssert .nilIface 20 268 true).run Tryz.prog w = .ok (.tuple #[.agg #[.pointer none], .bool false]) w := by kernel_rfl
def RdL (b5 b9 b4 : Nat) (bv : Value) (q : Nat) (ov : Bool) (ft er : Int) : List (Nat × Obj) := [(b9, blk 266 [bv, .int .i64 q, .bool ov, .int .i64 ft]), (b5, blk 228 [.pointer (some ⟨b9, 0, none⟩)]), (b4, blk 36 [.int .i64 er])]
theorem rd1_ret {b5 b9 b4 q m c : Nat} {a : Option Addr} (w0 : World) (hO : Step [b9, b5, b4] (RdL b5 b9 b4 (.slice a m c) q false 0 0) w0 w0) :
  CallsD Tryz.prog 159 #[.pointer (some ⟨b5, 0, none⟩), .pointer (some ⟨b4, 0, none⟩)] .returning w0 fun e u' w' => (∃ v, e = .returned v) ∧ settle u' = .returning ∧ Step [b9, b5, b4] (RdL b5 b9 b4 (.slice a m c) q true 0 (if q < m then 13 else 0)) w0 w' := by
 have hs := hO
 unfold RdL at hs
 refine callsD_rec (n := 48) Tryz.func159 rfl rfl rfl ?_
 intro c0 cs hc0
 refine CS.seq (CS.of ?_)
 refine cr <| wl ty228 rfl (hs.c1 rfl) <| wn rfl <| wF 2 u266 rfl ty4 rfl <| ws1 ty4 rfl rfl (rfl) (hs) (fun w hs => ?_)
 refine wZ <| CS.seq (CS.recover (v := .nilIface) (cs' := c0 :: cs) rfl rfl (.inr ⟨by simp [recoverD, hc0], rfl, rfl⟩) ?_)
 refine CS.of ?_
 refine cq <| sr <| wm <| wV (run_tA rfl (tA_nil _)) <| wm <| wx rfl rfl <| wx rfl rfl <| WL.alloc ty268 rfl hs (fun b3 w hs => ?_)
 refine WL.storeAll ty268 rfl rfl (rfl) ((fun v hv => by simp at hv; subst hv; rfl)) (hs) rfl (fun w hs => ?_)
 refine wA <| wZ <| sr <| wm <| wV (run_neqNilNil u20 rfl) <| wm <| wz <| wz <| wz <| wz <| wz <| wz <| wz <| wz <| wV (run_pickF rfl) <| wZ ?_
 refine cF rfl <| ck <| cB <| sr <| wl ty228 rfl (hs.c2 rfl) <| wn rfl <| wF 3 u266 rfl ty36 rfl <| wl ty36 rfl (hs.c1 rfl) <| wV (run_bF (run_neq rfl rfl) (by decide)) <| wA <| wZ ?_
 by_cases hq : q < m
 ·refine cF rfl <| cq <| CW.quiet mixedP (by kernel_rfl) hs ?_
  refine qV (fun w hs => run_load1 ty228 rfl (hs.c2 rfl)) <| qn rfl <| qF 1 u266 rfl ty3 rfl <| qV (fun w hs => run_load1 ty3 rfl (hs.c1 rfl)) <| qV (fun w hs => run_load1 ty228 rfl (hs.c2 rfl)) <| qn rfl <| qF 0 u266 rfl ty76 rfl <| qV (fun w hs => run_load1 ty76 rfl (hs.c1 rfl)) <| qV (fun w hs => run_lenSl u76 rfl) <| qV (fun w hs => run_bT (run_lss rfl rfl) (by omega)) <| qV (fun w hs => run_assign) <| QL.nil (fun w hs => ?_)
  refine cT rfl <| cr <| ws1 ty36 rfl rfl (rfl) ((hs.front [_, _, _])) (fun w hs => ?_)
  refine wZ <| finS_end0 (u' := c0.mode) rfl ⟨⟨_, rfl⟩, by rw [hc0]; rfl, ?_⟩
  rw [if_pos hq]
  exact (hs.swap.tail).rot1
 ·refine cF rfl <| cq <| CW.quiet mixedP (by kernel_rfl) hs ?_
  refine qV (fun w hs => run_load1 ty228 rfl (hs.c2 rfl)) <| qn rfl <| qF 1 u266 rfl ty3 rfl <| qV (fun w hs => run_load1 ty3 rfl (hs.c1 rfl)) <| qV (fun w hs => run_load1 ty228 rfl (hs.c2 rfl)) <| qn rfl <| qF 0 u266 rfl ty76 rfl <| qV (fun w hs => run_load1 ty76 rfl (hs.c1 rfl)) <| qV (fun w hs => run_lenSl u76 rfl) <| qV (fun w hs => run_bF (run_lss rfl rfl) (by omega)) <| qV (fun w hs => run_assign) <| QL.nil (fun w hs => ?_)
  refine cF rfl <| ck <| finS_end0 (u' := c0.mode) rfl ⟨⟨_, rfl⟩, by rw [hc0]; rfl, ?_⟩
  rw [if_neg hq]
  exact hs.tail
theorem rd1_panic {b5 b9 b4 q : Nat} {bv : Value} {er : Int} (he : er ≠ 0) (w0 : World) (hO : Step [b9, b5, b4] (RdL b5 b9 b4 bv q true er 0) w0 w0) :
  CallsD Tryz.prog 159 #[.pointer (some ⟨b5, 0, none⟩), .pointer (some ⟨b4, 0, none⟩)] (.panicking (pch b9)) w0 fun e u' w' => (∃ v, e = .returned v) ∧ settle u' = .returning ∧ Step [b9, b5, b4] (RdL b5 b9 b4 bv q true er er) w0 w' := by
 have hs := hO
 unfold RdL at hs
 refine callsD_rec (n := 48) Tryz.func159 rfl rfl rfl ?_
 intro c0 cs hc0
 refine CS.seq (CS.of ?_)
 refine cr <| wl ty228 rfl (hs.c1 rfl) <| wn rfl <| wF 2 u266 rfl ty4 rfl <| ws1 ty4 rfl rfl (rfl) (hs) (fun w hs => ?_)
 refine wZ <| CS.seq (CS.recover (v := pv b9) (cs' := { c0 with mode := .panicking [{ v := pv b9, recovered := true }] } :: cs) rfl rfl (.inl (by simp [recoverD, hc0, pch])) ?_)
 refine CS.of ?_
 refine cq <| sr <| wm <| wV (run_assertOk u268 rfl rfl) <| wm <| wx rfl rfl <| wx rfl rfl <| WL.alloc ty268 rfl hs (fun b3 w hs => ?_)
 refine WL.storeAll ty268 rfl rfl (rfl) ((fun v hv => by simp at hv; subst hv; rfl)) (hs) rfl (fun w hs => ?_)
 refine wA <| wZ <| sr <| wm <| wV (run_neqIfaceNil u20 rfl) <| wm <| wy <| wm <| wy <| wV (run_not rfl) <| wy <| wm <| wy <| wF 0 u268 rfl ty228 rfl <| wy <| wl ty228 rfl (hs.c0 rfl) <| wy <| wl ty228 rfl (hs.c2 rfl) <| wy <| wV (run_neqPtrSame u228 ty266 (by decide) rfl rfl) <| wy <| wV (run_pickF rfl) <| wV (run_pickT rfl) ?_
 refine wZ <| cF rfl <| ck <| cB <| sr <| wl ty228 rfl (hs.c2 rfl) <| wn rfl <| wF 3 u266 rfl ty36 rfl <| wl ty36 rfl (hs.c1 rfl) <| wV (run_bT (run_neq rfl rfl) (by exact he)) <| wA <| wZ <| cT rfl <| cr <| wl ty228 rfl (hs.c2 rfl) <| wn rfl ?_
 refine wF 3 u266 rfl ty36 rfl <| wl ty36 rfl (hs.c1 rfl) <| ws1 ty36 rfl rfl (rfl) ((hs.front [_, _, _])) (fun w hs => ?_)
 refine wZ ?_
 exact finS_end0 rfl ⟨⟨_, rfl⟩, rfl, (hs.swap.tail).rot1⟩
theorem entP_err {bs a : List UInt8} {p : Nat} {e : Int} (h : entP a bs p = .error e) : e ≠ 0 := by
 have hb : ∀ {p : Nat} {e : Int}, bytesP bs p = .error e → e ≠ 0 := fun {p e} h => by
  unfold bytesP at h
  split at h
  ·rename_i h1; injection h with h; subst h; rcases numP_err h1 with h | h <;> omega
  ·split at h
   ·injection h with h; omega
   ·cases h
 unfold entP at h
 split at h
 ·rename_i h1; injection h with h; subst h; rcases numP_err h1 with h | h <;> omega
 ·split at h
  ·split at h
   ·rename_i h1; injection h with h; subst h; exact hb h1
   ·split at h
    ·split at h
     ·rename_i h1; injection h with h; subst h; exact hb h1
     ·split at h
      ·injection h with h; omega
      ·cases h
    ·injection h with h; omega
  ·injection h with h; omega
theorem entsP_err {bs : List UInt8} : ∀ {n : Nat} {a : List UInt8} {p : Nat} {e : Int}, entsP bs n a p = .error e → e ≠ 0
 | 0, a, p, e, h => by cases h
 | n + 1, a, p, e, h => by
  unfold entsP at h
  split at h
  ·rename_i h1; injection h with h; subst h; exact entP_err h1
  ·split at h
   ·rename_i h1; injection h with h; subst h; exact entsP_err h1
   ·cases h
theorem decP_err {bs : List UInt8} {e : Int} (h : decP bs = .error e) : e ≠ 0 := by
 unfold decP at h
 split at h
 ·rename_i h1; injection h with h; subst h; rcases numP_err h1 with h | h <;> omega
 ·split at h
  ·split at h
   ·rename_i h1
    injection h with h; subst h
    unfold mostP at h1
    split at h1
    ·rename_i h2; injection h1 with h; subst h; rcases numP_err h2 with h | h <;> omega
    ·split at h1
     ·injection h1 with h; omega
     ·cases h1
   ·exact entsP_err h
  ·injection h with h; omega
def readP (bs : List UInt8) : Int × List Ent := match decP bs with
 | .error e => (e, [])
 | .ok (l, q) => if q < bs.length then (13, []) else (0, l)
def ReadR (bl : Nat) (bs : List UInt8) (w0 : World) (e : Ending) (w' : World) : Prop := ∃ u Lv G, e = .returned (.int .i64 (readP bs).1) ∧ Cell1 u ∧ ((readP bs).1 = 0 → OwnSl 115 34 u (readP bs).2.length (rows (readP bs).2) Lv ∧ Oks (readP bs).2 ∧ (readP bs).2.length ≤ 1024) ∧ Step [bl] ((bl, blk 116 [u]) :: (Lv ++ G)) w0 w'
theorem bld_reader (a : Option Addr) (m c : Nat) (w : World) : (Instr.build 266 #[(0, .slice a m c)]).run Tryz.prog w = .ok (.agg #[.slice a m c, .int .i64 0, .bool false, .int .i64 0]) w := by kernel_rfl
theorem read_at {bl : Nat} {bs : List UInt8} {v : Value} (w0 : World) (hv : Sl w0 1 v bs.length (u8s bs)) (hout : u8s bs = [] ∨ Outside v [bl]) (hlen : bs.length ≤ 1048576) (hO : Step [bl] [(bl, blk 116 [.slice none 0 0])] w0 w0) :
  Calls Tryz.prog 124 #[v, .func (.func 125) #[] #[.pointer (some ⟨bl, 0, none⟩)]] w0 (ReadR bl bs w0) := by
 have hs := hO
 refine callsDef (n := 14) Tryz.func124 rfl rfl rfl ?_
 refine sr <| WL.alloc ty36 rfl hs (fun b4 w hs => ?_)
 refine wZ <| sr <| wm <| wE rfl (run_call en83 rfl rfl) (clone_spec (s := bs) _ (hv.stepK hs hout) (by omega)) ?_
 rintro e w ⟨v', Lv', rfl, hv', hq⟩
 refine ⟨_, rfl, ?_⟩
 have ob := hv'.form
 obtain ⟨va, vc, rfl⟩ := ob
 replace hs := (hs.call0 hq).append_comm
 refine wV (run_build rfl (bld_reader _ _ _ _)) <| WL.box (cs := [.slice va bs.length vc, .int .i64 0, .bool false, .int .i64 0]) rfl rfl rfl hs (fun b9 w hs => ?_)
 refine WL.alloc ty228 rfl hs (fun b5 w hs => ?_)
 refine ws1 ty228 rfl rfl (rfl) (hs) (fun w hs => ?_)
 refine wZ ?_
 replace hs := Step.front [_, _] (Step.front [_, _, _] hs)
 have hs4 := hs
 have hown : Step [b9, bl] [RdB b9 (.slice va bs.length vc) 0, (bl, blk 116 [.slice none 0 0])] w w := Step.own (L1 := [_, _]) hs
 have hcomm := Step.append_comm (L1 := [_, _, _, _]) hs
 have hsl := hv'.sl hcomm
 have hvo : Outside (.slice va bs.length vc) [b9, bl] := hv'.outside fun p hp h => hcomm.disj p hp (by simp at h ⊢; rcases h with h | h <;> simp [h])
 refine sr <| wV (run_makeFuncC rfl) <| WL.defer (run_deferV (cap := [.pointer (some ⟨b5, 0, none⟩), .pointer (some ⟨b4, 0, none⟩)]) rfl) ?_
 refine wZ ?_
 have hdec := fun r hr => dec2_at (r := r) hr w hsl hvo (hv'.room (by decide)) hlen hown
 cases hr : decP bs with
 | error er =>
  have hne := decP_err hr
  have he : readP bs = (er, []) := by unfold readP; rw [hr]
  refine sr <| wm <| wl ty228 rfl ((hs.tail.tail.c0 rfl)) <| WL.enterX (run_callV (cap := [.pointer (some ⟨bl, 0, none⟩)]) en125 rfl rfl) (hdec _ hr) ?_
  rintro e w ⟨p, u, Lu, rfl, hu1, hq2⟩
  refine ⟨_, rfl, ?_⟩
  replace hs := Step.two (X := _ :: Lu) (Step.call (L1 := [RdB b9 _ 0, (bl, _)]) hs hq2)
  refine finD_panic (cap := [.pointer (some ⟨b5, 0, none⟩), .pointer (some ⟨b4, 0, none⟩)]) en159 ((rd1_panic hne _ (Step.own (L1 := [_, _, _]) hs)).mono fun e u' w' h => ?_)
  obtain ⟨h1, h2, hq3⟩ := h
  refine ⟨h1, h2, fun a ha => ?_⟩
  replace hs := Step.call (L1 := [_, _, _]) hs hq3
  exact ⟨_, res_cell1 ha rfl rfl (run_loadVar1 ty36 (hs.c2 rfl)), u, Lu, Lv', by rw [he], hu1, fun h => absurd (by rw [he] at h; exact h) hne, Step.dropL (L1 := [_, _, _]) hs⟩
 | ok lq =>
  obtain ⟨l, q⟩ := lq
  refine sr <| wm <| wl ty228 rfl ((hs.tail.tail.c0 rfl)) <| wE rfl (run_callV (cap := [.pointer (some ⟨bl, 0, none⟩)]) en125 rfl rfl) (hdec _ hr) ?_
  rintro e w ⟨u, Lu, rfl, hu, hlo, hll, hqb, hq2⟩
  refine ⟨_, rfl, ?_⟩
  refine wZ ?_
  replace hs := Step.front [_, _] (Step.two (X := _ :: Lu) (Step.call (L1 := [RdB b9 _ 0, (bl, _)]) hs hq2))
  refine sr <| ws1 ty36 rfl rfl (rfl) (hs) (fun w hs => ?_)
  refine wZ ?_
  replace hs := hs.rot3.rot3
  refine CW.ret ?_
  refine finD_ret (cap := [.pointer (some ⟨b5, 0, none⟩), .pointer (some ⟨b4, 0, none⟩)]) en159 ((rd1_ret _ (Step.own (L1 := [_, _, _]) hs)).mono fun e u' w' h => ?_)
  obtain ⟨h1, h2, hq3⟩ := h
  refine ⟨h1, h2, fun a ha => ?_⟩
  replace hs := Step.call (L1 := [_, _, _]) hs hq3
  refine ⟨_, res_cell1 ha rfl rfl (run_loadVar1 ty36 (hs.c2 rfl)), u, Lu, Lv', ?_, hu.one, ?_, Step.dropL (L1 := [_, _, _]) hs⟩
  ·unfold readP
   rw [hr]
   by_cases hlt : q < bs.length <;> simp [hlt]
  ·intro h0
   have he : readP bs = (0, l) := by
    unfold readP at h0 ⊢
    rw [hr] at h0 ⊢
    simp only at h0 ⊢
    split at h0
    ·cases h0
    ·rename_i hlt; rw [if_neg hlt]
   rw [he]
   exact ⟨hu, hlo, hll⟩
def decE (bs : List UInt8) : Int := if 1048576 < bs.length then 2 else (readP bs).1
def decL (bs : List UInt8) : List Ent := if decE bs = 0 then (readP bs).2 else []
theorem dec1_at {b2 b3 : Nat} {er : Int} {u : Value} {md : FrameMode} (w0 : World) (hO : Step [b2, b3] [(b2, blk 116 [u]), (b3, blk 36 [.int .i64 er])] w0 w0) :
  CallsD Tryz.prog 123 #[.pointer (some ⟨b3, 0, none⟩), .pointer (some ⟨b2, 0, none⟩)] md w0 fun e u' w' => u' = md ∧ (e = .returned (.tuple #[]) ∧ Step [b2, b3] [(b2, blk 116 [if er = 0 then u else .slice none 0 0]), (b3, blk 36 [.int .i64 er])] w0 w') := by
 have hs := hO
 refine callsD_plain (n := 4) Tryz.func123 rfl rfl rfl ?_
 by_cases he : er = 0
 ·refine sr <| wl ty36 rfl (hs.c1 rfl) <| wV (run_bF (run_neq rfl rfl) (by simpa using he)) <| wZ <| cF rfl <| ck <| fin_end0 rfl ?_
  rw [if_pos he]
  exact ⟨rfl, hs⟩
 ·refine sr <| wl ty36 rfl (hs.c1 rfl) <| wV (run_bT (run_neq rfl rfl) (by exact he)) <| wZ <| cT rfl <| cr <| ws1 ty116 rfl rfl (rfl) (hs) (fun w hs => ?_)
  refine wZ <| fin_end0 rfl ?_
  rw [if_neg he]
  exact ⟨rfl, hs⟩
theorem decode_at {bs : List UInt8} {v : Value} (w0 : World) (hv : Sl w0 1 v bs.length (u8s bs)) (hlen : bs.length ≤ 9223372036854775807) :
  Calls Tryz.prog 78 #[v] w0 fun e w' => ∃ u Lv, e = .returned (.tuple #[u, .int .i64 (decE bs)]) ∧ OwnSl 115 34 u (decL bs).length (rows (decL bs)) Lv ∧ Oks (decL bs) ∧ (decL bs).length ≤ 1024 ∧ Step [] Lv w0 w' := by
 have hs : Step [] [] w0 w0 := Step.refl w0
 obtain ⟨a, c, rfl⟩ : ∃ a c, v = .slice a bs.length c := by
  have ob := id hv
  obtain ⟨_, ⟨_, c, rfl, h0⟩ | ⟨b, off, c, rfl, _⟩⟩ := ob
  ·exact ⟨_, _, by rw [h0]⟩
  ·exact ⟨_, _, rfl⟩
 refine callsDef (n := 13) Tryz.func78 rfl rfl rfl ?_
 refine sr <| WL.alloc ty116 rfl hs (fun b2 w hs => ?_)
 refine WL.alloc ty36 rfl hs (fun b3 w hs => ?_)
 refine wZ ?_
 by_cases hbig : 1048576 < bs.length
 ·have he : decE bs = 2 := if_pos hbig
  have hl : decL bs = [] := by unfold decL; rw [he]; rfl
  refine cq <| sr <| wm <| wV (run_lenSl u76 rfl) <| wV (run_bT (run_gtr rfl rfl) (by omega)) <| wZ <| cT rfl <| sr <| ws1 ty116 rfl rfl (rfl) (hs.swap) (fun w hs => ?_)
  refine ws1 ty36 rfl rfl (rfl) (hs.swap) (fun w hs => ?_)
  refine wZ <| CW.ret ?_
  refine finD_ret0 fun a ha => ⟨_, res_cell2 ha rfl rfl rfl (run_loadVar1 ty116 (hs.c1 rfl)) (run_loadVar1 ty36 (hs.c0 rfl)), ?_⟩
  rw [he, hl]
  exact ⟨_, _, rfl, .nil _ _, Oks.nil, by simp, hs.clear⟩
 ·have he : decE bs = (readP bs).1 := if_neg hbig
  refine cq <| sr <| wm <| wV (run_lenSl u76 rfl) <| wV (run_bF (run_gtr rfl rfl) (by omega)) <| wZ <| cF rfl <| ck <| sr <| wV (run_makeFuncC rfl) <| WL.defer (run_deferV (cap := [.pointer (some ⟨b3, 0, none⟩), .pointer (some ⟨b2, 0, none⟩)]) rfl) ?_
  refine wZ ?_
  replace hs := hs.swap
  refine sr <| wm <| wV (run_makeFuncC rfl) <| wE rfl (run_call en124 rfl rfl) (read_at _ (hv.step0 hs.clear) (Outside.newer hv hs (fun k hk => by simp at hk ⊢; exact .inl hk)) (by omega) (Step.own (L1 := [_]) hs)) ?_
  rintro e w ⟨u, Lv, G, rfl, hu1, hok, hq⟩
  refine ⟨_, rfl, ?_⟩
  replace hs := Step.call (L1 := [_]) hs hq
  replace hs := Step.append_comm hs
  refine ws1 ty36 rfl rfl (rfl) (hs) (fun w hs => ?_)
  refine wZ ?_
  replace hs := hs.swap
  refine cq <| CW.any (A := fun w => Step [] [(b2, blk 116 [u]), (b3, blk 36 [.int .i64 (readP bs).1])] w0 w) (C := fun w => Step [] [(b2, blk 116 [u]), (b3, blk 36 [.int .i64 (readP bs).1])] w0 w) 1000000 4 mixedP rfl ?_
  replace hs := hs.drew
  refine AL.val 0 rfl (by kernel_rfl) rfl (fun w hs => run_load1 ty116 rfl (hs.c0 rfl)) ?_
  refine AL.val 1 rfl (by kernel_rfl) rfl (fun w hs => run_load1 ty36 rfl (hs.c1 rfl)) ?_
  refine AL.one 2 (by kernel_rfl) rfl (Step.dropR (L1 := [_, _]) hs) (Step.dropR (L1 := [_, _]) hs) ?_
  refine ws1 ty116 rfl rfl (hu1) hs (fun w hs => ?_)
  refine wZ <| ⟨rfl, ?_⟩
  refine AL.one 3 (by kernel_rfl) rfl (Step.dropR (L1 := [_, _]) hs) (Step.dropR (L1 := [_, _]) hs) ?_
  refine ws1 ty36 rfl rfl (rfl) (hs.swap) (fun w hs => ?_)
  replace hs := hs.swap
  refine wZ <| ⟨rfl, ?_⟩
  refine AL.end (by kernel_rfl) (Step.dropR (L1 := [_, _]) hs) (Step.dropR (L1 := [_, _]) hs) ?_
  refine CW.ret ?_
  refine finD_ret (cap := [.pointer (some ⟨b3, 0, none⟩), .pointer (some ⟨b2, 0, none⟩)]) en123 ((dec1_at _ (Step.own (L1 := [_, _]) hs)).mono fun e u' w' h => ?_)
  obtain ⟨h1, rfl, hq3⟩ := h
  refine ⟨⟨_, rfl⟩, by rw [h1]; rfl, fun a ha => ?_⟩
  replace hs := Step.call (L1 := [_, _]) hs hq3
  by_cases h0 : (readP bs).1 = 0
  ·rw [if_pos h0] at hs
   have ob := hok h0
   obtain ⟨ho1, ho2, ho3⟩ := ob
   refine ⟨_, res_cell2 ha rfl rfl rfl (run_loadVar1 ty116 (hs.c0 rfl)) (run_loadVar1 ty36 (hs.c1 rfl)), ?_⟩
   have hl : decL bs = (readP bs).2 := by unfold decL; rw [he, if_pos h0]
   rw [he, hl]
   exact ⟨u, Lv, rfl, ho1, ho2, ho3, Step.dropR (Step.dropL (L1 := [_, _]) hs)⟩
  ·rw [if_neg h0] at hs
   refine ⟨_, res_cell2 ha rfl rfl rfl (run_loadVar1 ty116 (hs.c0 rfl)) (run_loadVar1 ty36 (hs.c1 rfl)), ?_⟩
   have hl : decL bs = [] := by unfold decL; rw [he, if_neg h0]
   rw [he, hl]
   exact ⟨_, _, rfl, .nil _ _, Oks.nil, by simp, hs.clear⟩
end Go.Gx
