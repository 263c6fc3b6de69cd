/- NodeMade's walk. -/
import Derived.Test.YtkdmkjlchlcebaaMade1
import Derived.Test.YtkdmkjlchlcebaaEdits
namespace Go.Gx
open Go.Proofs
set_option linter.unusedVariables false
set_option linter.unusedSimpArgs false
set_option maxRecDepth 100000
attribute [local irreducible] decE decL readP decP encB checkE

def strs (l : List (List UInt8)) : List Value := l.map str
theorem strs_len (l : List (List UInt8)) : (strs l).length = l.length := by simp [strs]
theorem strs_c1 (l : List (List UInt8)) : Cells1 (strs l) := fun v hv => by
  have hobt := List.mem_map.1 hv
  obtain ⟨s, _, rfl⟩ := hobt
  rfl
theorem str_at {w : World} {a : Option Addr} {n c i : Nat} {l : List (List UInt8)} (h : Sl w 1 (.slice a n c) n (strs l)) (hi : i < l.length) : ∃ bk off, a = some ⟨bk, off, none⟩ ∧ w.cell? ⟨bk, off + i * 1, none⟩ = some (str l[i]) := by
  obtain ⟨hl, ⟨c1, h1, h0⟩ | ⟨bk, off, c1, h1, hat⟩⟩ := h
  · rw [strs_len, h0] at hl
    omega
  · cases h1
    exact ⟨bk, off, rfl, by rw [Nat.mul_one]; exact hat.cell (by simp [strs, hi])⟩
theorem str_in {w0 : World} {a : Option Addr} {n c i : Nat} {l : List (List UInt8)} (h : Sl w0 1 (.slice a n c) n (strs l)) (hi : i < l.length) : ∃ bk off, a = some ⟨bk, off, none⟩ ∧ ∀ (w : World) (L : List (Nat × Obj)), Step [] L w0 w → w.cell? ⟨bk, off + i * 1, none⟩ = some (str l[i]) := by
  obtain ⟨hl, ⟨c1, h1, h0⟩ | ⟨bk, off, c1, h1, hat⟩⟩ := h
  · rw [strs_len, h0] at hl
    omega
  · cases h1
    exact ⟨bk, off, rfl, fun w L hs => by rw [Nat.mul_one]; exact (hat.step hs (by simp)).cell (by simp [strs, hi])⟩
theorem OwnSl.sl0 {E sz k : Nat} {v : Value} {xs : List Value} {Lv : List (Nat × Obj)} {S : List Nat} {w0 w : World} (h : OwnSl E sz v k xs Lv) (hs : Step S Lv w0 w) : Sl w sz v k xs := h.sl (L := []) (by rw [List.append_nil]; exact hs)

theorem es_cut {w : World} {b off c i : Nat} {l : List Ent} (hat : At w b off (rows l)) (ho : Oks l) (hi : i < l.length) (hc : l.length ≤ c) : ∃ a' c', cutSl 34 b off i (i + 1) c = .slice (some ⟨b, a', none⟩) 1 c' ∧ Es w (.slice (some ⟨b, a', none⟩) 1 c') [l[i]] ∧ 1 ≤ c' := by
  refine ⟨off + i * 34, c - i, ?_, ⟨?_, Oks.one (ho.get hi), by simp⟩, by omega⟩
  · rw [cutSl, if_neg (by omega), show i + 1 - i = 1 by omega]
  · rw [rows_one]
    exact .mk (by rw [Ent.cells_len (ho.get hi)]) (hat.ent ho hi)

theorem findQ_spec {v : Value} {l : List Ent} {n : List UInt8} {p : Ent × Bool} (hp : findR n l = p) (w0 : World) (hl : Es w0 v l) (hc : Rising l) (hbb : l.length ≤ 1000000) :
    Calls Try.prog 26 #[v, str n] w0 fun e w' => e = .returned (.tuple #[.agg p.1.cells.toArray, .bool p.2]) ∧ Step [] [] w0 w' := hp ▸ findS_spec w0 hl hc hbb
theorem withQ_spec {v : Value} {l m : List Ent} {x : Ent} (hm : withR x false l = m) (w0 : World) (hl : Es w0 v l) (hc : Rising l) (hbb : l.length ≤ 1000000) (hx : x.ok) :
    Calls Try.prog 28 #[v, .agg x.cells.toArray] w0 fun e w' => ∃ u Lu, e = .returned u ∧ OwnSl 48 34 u m.length (rows m) Lu ∧ Step [] Lu w0 w' := hm ▸ withS_spec w0 hl hc hbb hx
theorem lessQ_spec {v : Value} {l m : List Ent} {n : List UInt8} (hm : remR n l = m) (w0 : World) (hl : Es w0 v l) (hc : Rising l) (hbb : l.length ≤ 1000000) :
    Calls Try.prog 24 #[v, str n] w0 fun e w' => ∃ u Lu, e = .returned u ∧ OwnSl 48 34 u m.length (rows m) Lu ∧ Step [] Lu w0 w' := hm ▸ lessS_spec w0 hl hc hbb
theorem Step.last3 {S : List Nat} {p : Nat × Obj} {A B C : List (Nat × Obj)} {w w' : World} (h : Step S (p :: (A ++ (B ++ C))) w w') : Step S (C ++ (p :: (A ++ B))) w w' :=
  h.perm (by rw [← List.append_assoc]; exact List.perm_append_comm (l₁ := p :: (A ++ B)))
theorem Step.pick2 {S : List Nat} {p : Nat × Obj} {A B C : List (Nat × Obj)} {w w' : World} (h : Step S (C ++ (p :: (A ++ B))) w w') : Step S (A ++ C) w w' := by
  have h1 := h.perm (List.perm_append_comm (l₂ := p :: (A ++ B)))
  have h2 := h1.tail
  have h3 : Step S (A ++ (B ++ C)) w w' := by rw [← List.append_assoc]; exact h2
  exact Step.dropR (Step.mid A h3 |> fun h => by rw [← List.append_assoc] at h; exact h)
theorem filled_s (v z : Value) (h : v.cells = #[v]) : Filled 1 1 [z] [(0, v)] [v] := by
  simp [Filled, Instr.fill, h]

set_option maxHeartbeats 1600000 in
theorem made_spec {v vo : Value} {l : List Ent} {out : List (List UInt8)} (w0 : World) (hl : Es w0 v l) (hcap : Room v) (ho : Sl w0 1 vo out.length (strs out)) (hol : out.length ≤ 9223372036854775807) : Calls Try.prog 8 #[v, vo] w0 fun e w' => e = .returned (.bool true) ∧ Step [] [] w0 w' := by
  have hs : Step [] [] w0 w0 := Step.refl w0
  have hbl := hl.2.2
  have hobt := hl.1.form
  obtain ⟨va, vc, rfl⟩ := hobt
  have hobt := ho.form
  obtain ⟨oa, oc, rfl⟩ := hobt
  refine calls (n := 227) Try.func8 rfl rfl rfl ?_
  repeat (first | refine CW.seq ?_ | refine CW.block ?_ | refine CW.skip ?_ | refine CW.exit ?_ | refine CW.condT rfl ?_ | refine CW.condF rfl ?_)
  refine CW.reg ?_
  refine WL.val rfl (run_assign) ?_
  refine WL.nil ?_
  repeat (first | refine CW.seq ?_ | refine CW.block ?_ | refine CW.skip ?_ | refine CW.exit ?_ | refine CW.condT rfl ?_ | refine CW.condF rfl ?_)
  refine CW.reg ?_
  refine WL.enter rfl (run_call en11 rfl rfl) (known_spec _) ?_
  rintro e w ⟨rfl, hq⟩
  refine ⟨_, rfl, ?_⟩
  replace hs := hs.callE hq
  first | refine WL.val rfl (run_notB rfl) ?_ | refine WL.val rfl (run_not rfl) ?_
  refine WL.nil ?_
  repeat (first | refine CW.seq ?_ | refine CW.block ?_ | refine CW.skip ?_ | refine CW.exit ?_ | refine CW.condT rfl ?_ | refine CW.condF rfl ?_)
  refine CW.reg ?_
  refine WL.val rfl (run_assign) ?_
  refine WL.nil ?_
  repeat (first | refine CW.seq ?_ | refine CW.block ?_ | refine CW.skip ?_ | refine CW.exit ?_ | refine CW.condT rfl ?_ | refine CW.condF rfl ?_)
  refine CW.reg ?_
  refine WL.val rfl (run_assign) ?_
  refine WL.nil ?_
  repeat (first | refine CW.seq ?_ | refine CW.block ?_ | refine CW.skip ?_ | refine CW.exit ?_ | refine CW.condT rfl ?_ | refine CW.condF rfl ?_)
  refine CW.reg ?_
  refine WL.val rfl (run_assign) ?_
  refine WL.nil ?_
  repeat (first | refine CW.seq ?_ | refine CW.block ?_ | refine CW.skip ?_ | refine CW.exit ?_ | refine CW.condT rfl ?_ | refine CW.condF rfl ?_)
  refine CW.loop (fun m f w' => ∃ i N ns un Lun unm Lnm, i ≤ l.length ∧ i ≤ 300 ∧ m = 300 - i ∧ checkE N = 0 ∧ N.length ≤ i ∧ ns.length ≤ 2 * i ∧ OwnSl 48 34 un N.length (rows N) Lun ∧ Oks N ∧ OwnSl 9 1 unm ns.length (strs ns) Lnm ∧ Step [] (Lun ++ Lnm) w0 w' ∧ Holds f [(0, .slice va l.length vc), (1, .slice oa out.length oc), (5, un), (6, unm), (7, .int .i64 i)]) (m := 300) ?_ ?_
  · exact ⟨0, [], [], _, [], _, [], by omega, by omega, by omega, by unfold checkE; rfl, by simp, by simp, .nil _ _, Oks.nil, .nil _ _, hs.clear, rfl, rfl, rfl, rfl, rfl, trivial⟩
  · clear hs
    rintro m f w ⟨i, N, ns, un, Lun, unm, Lnm, hi, hi3, rfl, hcN, hNl, hnl, hun, hoN, hunm, hs, hf⟩
    have hobt := hf.chain
    obtain ⟨g, rfl⟩ := hobt
    have hrN := check_rising hcN
    by_cases hgo : i < l.length ∧ i < 300
    · obtain ⟨hlt, h300⟩ := hgo
      rcases hl.cases with ⟨c', hv', h0⟩ | ⟨b, off, c', hv', hat⟩
      · rw [h0] at hlt; simp at hlt
      obtain ⟨rfl, rfl⟩ : va = some ⟨b, off, none⟩ ∧ vc = c' := by cases hv'; exact ⟨rfl, rfl⟩
      have hok := hl.2.1.get hlt
      have hyl := Ent.cells_len hok
      have hcap' : l.length ≤ vc := hcap
      have hax : ∀ {w : World} {L : List (Nat × Obj)}, Step [] L w0 w → At w b (off + i * 34) (l[i]).cells := fun hs => (hat.ent hl.2.1 hlt).step hs (by simp)
      have hcu := fun (w : World) (L : List (Nat × Obj)) (hs : Step [] L w0 w) => es_cut (hat.step hs (by simp)) hl.2.1 hlt hcap'
      repeat (first | refine CW.seq ?_ | refine CW.block ?_ | refine CW.skip ?_ | refine CW.exit ?_ | refine CW.condT rfl ?_ | refine CW.condF rfl ?_)
      refine CW.reg ?_
      refine WL.val rfl (run_move) ?_
      refine WL.val rfl (run_move) ?_
      refine WL.val rfl (run_lenSl Try.underlying22 rfl) ?_
      refine WL.val rfl (run_bT (run_lss rfl rfl) (by omega)) ?_
      refine WL.val rfl (run_move) ?_
      refine WL.yes rfl rfl rfl ?_
      refine WL.val rfl (run_move) ?_
      refine WL.yes rfl rfl rfl ?_
      refine WL.val rfl (run_bT (run_lss rfl rfl) (by omega)) ?_
      first | refine WL.val rfl (run_pickT rfl) ?_ | refine WL.val rfl (run_pickF rfl) ?_
      refine WL.nil ?_
      have hcu1 := hcu _ _ hs
      obtain ⟨a1, c1, hcut, hes1, hr1⟩ := hcu1
      by_cases hcx : checkE [l[i]] = 0
      · have hgx := check_good hcx l[i] (by simp)
        repeat (first | refine CW.seq ?_ | refine CW.block ?_ | refine CW.skip ?_ | refine CW.exit ?_ | refine CW.condT rfl ?_ | refine CW.condF rfl ?_)
        refine CW.reg ?_
        refine WL.val rfl (run_move) ?_
        refine WL.val rfl (run_move) ?_
        refine WL.val rfl (run_move) ?_
        refine WL.val rfl (run_add (c := ((i + 1 : Nat) : Int)) rfl rfl (by omega) (by omega)) ?_
        refine WL.val rfl (run_sliceSlE (lo := i) (hi := i + 1) (m := vc) Try.underlying22 ty48 rfl rfl rfl rfl (by simp) (by omega) (by omega) (by omega) hcut) ?_
        refine WL.enter rfl (run_call en14 rfl rfl) (checkR_spec (l := [l[i]]) hcx _ hes1 hr1) ?_
        rintro e w ⟨rfl, hq⟩
        refine ⟨_, rfl, ?_⟩
        replace hs := hs.callE hq
        refine WL.val rfl (run_bF (run_neq rfl rfl) (by decide)) ?_
        refine WL.nil ?_
        have hesN : ∀ {w : World} {L : List (Nat × Obj)}, Step [] (Lun ++ L) w0 w → Es w un N := fun hs => hun.es hoN (by omega) hs
        have hobt : ∃ M, withR l[i] false N = M := ⟨_, rfl⟩
        obtain ⟨M, hM⟩ := hobt
        have hrM : Rising M := hM ▸ withR_rising hrN
        have hcM : checkE M = 0 := hM ▸ made_check hcN hgx (by omega)
        have hMl : M.length ≤ i + 1 := by
          rw [← hM]
          exact Nat.le_trans withR_len1 (by omega)
        have hoM : Oks M := hM ▸ withR_ok hok hoN
        have hag : withR l[i] false M = M := by rw [← hM]; exact made_again hrN
        have hfd : findR (l[i]).name M = (l[i], true) := by rw [← hM]; exact made_found hrN
        have hmo : ∀ n, n ≠ (l[i]).name → findR n M = findR n N := fun n hn => by rw [← hM]; exact (made_other hrN hn).symm
        repeat (first | refine CW.seq ?_ | refine CW.block ?_ | refine CW.skip ?_ | refine CW.exit ?_ | refine CW.condT rfl ?_ | refine CW.condF rfl ?_)
        refine CW.reg ?_
        refine WL.val rfl (run_move) ?_
        refine WL.val rfl (run_move) ?_
        refine WL.val rfl (run_move) ?_
        first | refine WL.val rfl (run_ixSlN Try.underlying22 ty48 rfl rfl (by omega)) ?_ | refine WL.val rfl (run_ixSl Try.underlying22 ty48 rfl rfl (by omega)) ?_
        refine WL.val rfl (run_loadN ty48 rfl hyl (hax hs)) ?_
        refine WL.enter rfl (run_call en28 rfl rfl) (withQ_spec hM _ (hesN hs) hrN (by omega) hok) ?_
        rintro e w ⟨u8, L8, rfl, hu8, hq⟩
        refine ⟨_, rfl, ?_⟩
        refine WL.val rfl (run_assign) ?_
        refine WL.nil ?_
        replace hs : Step [] (L8 ++ (Lun ++ Lnm)) w0 w := hs.call0 hq
        have hesM : ∀ {w : World} {L : List (Nat × Obj)}, Step [] (L8 ++ L) w0 w → Es w u8 M := fun hs => hu8.es hoM (by omega) hs
        repeat (first | refine CW.seq ?_ | refine CW.block ?_ | refine CW.skip ?_ | refine CW.exit ?_ | refine CW.condT rfl ?_ | refine CW.condF rfl ?_)
        refine CW.reg ?_
        refine WL.val rfl (run_move) ?_
        refine WL.val rfl (run_move) ?_
        refine WL.val rfl (run_move) ?_
        first | refine WL.val rfl (run_ixSlN Try.underlying22 ty48 rfl rfl (by omega)) ?_ | refine WL.val rfl (run_ixSl Try.underlying22 ty48 rfl rfl (by omega)) ?_
        refine WL.val rfl (run_loadN ty48 rfl hyl (hax hs)) ?_
        refine WL.enter rfl (run_call en28 rfl rfl) (withQ_spec hag _ (hesM hs) hrM (by omega) hok) ?_
        rintro e w ⟨u9, L9, rfl, hu9, hq⟩
        refine ⟨_, rfl, ?_⟩
        refine WL.val rfl (run_assign) ?_
        refine WL.nil ?_
        replace hs : Step [] (L9 ++ (L8 ++ (Lun ++ Lnm))) w0 w := hs.call0 hq
        have hes9 : ∀ {w : World} {L : List (Nat × Obj)}, Step [] (L9 ++ L) w0 w → Es w u9 M := fun hs => hu9.es hoM (by omega) hs
        repeat (first | refine CW.seq ?_ | refine CW.block ?_ | refine CW.skip ?_ | refine CW.exit ?_ | refine CW.condT rfl ?_ | refine CW.condF rfl ?_)
        refine CW.reg ?_
        refine WL.val rfl (run_move) ?_
        refine WL.val rfl (run_move) ?_
        refine WL.val rfl (run_move) ?_
        first | refine WL.val rfl (run_ixSlN Try.underlying22 ty48 rfl rfl (by omega)) ?_ | refine WL.val rfl (run_ixSl Try.underlying22 ty48 rfl rfl (by omega)) ?_
        refine WL.val rfl (run_field (o' := 0) Try.underlying48 rfl ty9 rfl rfl rfl) ?_
        refine WL.val rfl (run_load1 ty9 rfl ((hax hs).cell (j := 0) rfl)) ?_
        refine WL.enter rfl (run_call en26 rfl rfl) (findQ_spec hfd _ (hesM hs.dropL) hrM (by omega)) ?_
        rintro e w ⟨rfl, hq⟩
        refine ⟨_, rfl, ?_⟩
        replace hs := hs.callE hq
        refine WL.val rfl (run_move) ?_
        refine WL.val rfl (run_extract rfl rfl) ?_
        refine WL.val rfl (run_extract rfl rfl) ?_
        refine WL.alloc ty48 rfl hs (fun b10 w hs => ?_)
        first | refine WL.storeAll ty48 rfl rfl ((hyl)) (Ent.cells1 _) hs (by first | rfl | assumption) (fun w hs => ?_) | refine WL.storeAll_1 ty48 rfl rfl ((hyl)) (Ent.cells1 _) hs (by first | rfl | assumption) (fun w hs => ?_) | refine WL.storeAll_2 ty48 rfl rfl ((hyl)) (Ent.cells1 _) hs (by first | rfl | assumption) (fun w hs => ?_) | refine WL.storeAll_3 ty48 rfl rfl ((hyl)) (Ent.cells1 _) hs (by first | rfl | assumption) (fun w hs => ?_) | refine WL.storeAll_4 ty48 rfl rfl ((hyl)) (Ent.cells1 _) hs (by first | rfl | assumption) (fun w hs => ?_) | refine WL.storeAll ty48 rfl rfl ((hyl)) (Ent.cells1 _) hs (by first | rfl | assumption) (fun w hs => ?_)
        refine WL.val rfl (run_assign) ?_
        refine WL.nil ?_
        repeat (first | refine CW.seq ?_ | refine CW.block ?_ | refine CW.skip ?_ | refine CW.exit ?_ | refine CW.condT rfl ?_ | refine CW.condF rfl ?_)
        refine CW.quiet mixedP (by kernel_rfl) hs ?_
        refine QL.val rfl (fun w hs => run_move) ?_
        refine QL.val rfl (fun w hs => run_move) ?_
        refine QL.enter rfl (fun w => run_call en22 rfl rfl) (fun w hs => same_true rfl _ (hesM (Step.dropL (Step.tail hs))) (hes9 (Step.tail hs))) ?_
        first | refine QL.val rfl (fun w hs => run_notB rfl) ?_ | refine QL.val rfl (fun w hs => run_not rfl) ?_
        refine QL.val rfl (fun w hs => run_move) ?_
        refine QL.yes rfl rfl rfl ?_
        refine QL.val rfl (fun w hs => run_move) ?_
        refine QL.yes rfl rfl rfl ?_
        first | refine QL.val rfl (fun w hs => run_notB rfl) ?_ | refine QL.val rfl (fun w hs => run_not rfl) ?_
        first | refine QL.val rfl (fun w hs => run_pickT rfl) ?_ | refine QL.val rfl (fun w hs => run_pickF rfl) ?_
        refine QL.val rfl (fun w hs => run_move) ?_
        refine QL.yes rfl rfl rfl ?_
        first | refine QL.val rfl (fun w hs => run_loadN ty48 rfl (by first | rfl | assumption | (simp; done)) hs.a0) ?_ | refine QL.val rfl (fun w hs => run_loadN ty48 rfl (by first | rfl | assumption | (simp; done)) hs.a1) ?_ | refine QL.val rfl (fun w hs => run_loadN ty48 rfl (by first | rfl | assumption | (simp; done)) hs.a2) ?_ | refine QL.val rfl (fun w hs => run_loadN ty48 rfl (by first | rfl | assumption | (simp; done)) hs.a3) ?_ | refine QL.val rfl (fun w hs => run_loadN ty48 rfl (by first | rfl | assumption | (simp; done)) hs.a4) ?_ | refine QL.val rfl (fun w hs => run_loadN ty48 rfl (by first | rfl | assumption | (simp; done)) hs.a5) ?_ | refine QL.val rfl (fun w hs => run_loadN ty48 rfl (by first | rfl | assumption | (simp; done)) hs.a0) ?_
        refine QL.yes rfl rfl rfl ?_
        refine QL.val rfl (fun w hs => run_move) ?_
        refine QL.yes rfl rfl rfl ?_
        refine QL.val rfl (fun w hs => run_move) ?_
        refine QL.yes rfl rfl rfl ?_
        first | refine QL.val rfl (fun w hs => run_ixSlN Try.underlying22 ty48 rfl rfl (by omega)) ?_ | refine QL.val rfl (fun w hs => run_ixSl Try.underlying22 ty48 rfl rfl (by omega)) ?_
        refine QL.yes rfl rfl rfl ?_
        refine QL.val rfl (fun w hs => run_loadN ty48 rfl hyl (hax hs)) ?_
        refine QL.yes rfl rfl rfl ?_
        refine QL.val rfl (fun w hs => run_bF (run_neqAgg Ent.lits_iff ent_key (ent_formed hok) (ent_formed hok) ent_guard rfl rfl (lits_ent hok) (lits_ent hok)) (by simp)) ?_
        first | refine QL.val rfl (fun w hs => run_pickT rfl) ?_ | refine QL.val rfl (fun w hs => run_pickF rfl) ?_
        refine QL.val rfl (fun w hs => run_move) ?_
        refine QL.yes rfl rfl rfl ?_
        refine QL.val rfl (fun w hs => run_move) ?_
        refine QL.yes rfl rfl rfl ?_
        refine QL.enter rfl (fun w => run_call en13 rfl rfl) (fun w hs => check_spec hcM _ (hesM (Step.dropL (Step.tail hs)))) ?_
        refine QL.yes rfl rfl rfl ?_
        refine QL.val rfl (fun w hs => run_bF (run_neq rfl rfl) (by decide)) ?_
        first | refine QL.val rfl (fun w hs => run_pickT rfl) ?_ | refine QL.val rfl (fun w hs => run_pickF rfl) ?_
        refine QL.nil (fun w hs => ?_)
        replace hs : Step [] (L8 ++ (Lun ++ Lnm)) w0 w := Step.dropL (Step.tail hs)
        repeat (first | refine CW.seq ?_ | refine CW.block ?_ | refine CW.skip ?_ | refine CW.exit ?_ | refine CW.condT rfl ?_ | refine CW.condF rfl ?_)
        refine CW.reg ?_
        refine WL.val rfl (run_assign) ?_
        refine WL.nil ?_
        have hform := hunm.form
        obtain ⟨na, nc, hqn⟩ := hform
        subst hqn
        repeat (first | refine CW.seq ?_ | refine CW.block ?_ | refine CW.skip ?_ | refine CW.exit ?_ | refine CW.condT rfl ?_ | refine CW.condF rfl ?_)
        refine CW.loop (fun m f w' => ∃ k, k ≤ ns.length ∧ m = ns.length - k ∧ Step [] (L8 ++ (Lun ++ Lnm)) w0 w' ∧ Holds f [(0, .slice (some ⟨b, off, none⟩) l.length vc), (1, .slice oa out.length oc), (5, un), (6, .slice na ns.length nc), (7, .int .i64 i), (8, u8), (12, .int .i64 k)]) (m := ns.length) ?_ ?_
        · exact ⟨0, by omega, by omega, hs, rfl, rfl, rfl, rfl, rfl, rfl, rfl, trivial⟩
        · clear hs
          rintro m f w ⟨k, hk, rfl, hs, hf⟩
          have hobt := hf.chain
          obtain ⟨g, rfl⟩ := hobt
          repeat (first | refine CW.seq ?_ | refine CW.block ?_ | refine CW.skip ?_ | refine CW.exit ?_ | refine CW.condT rfl ?_ | refine CW.condF rfl ?_)
          refine CW.reg ?_
          refine WL.val rfl (run_move) ?_
          refine WL.val rfl (run_move) ?_
          refine WL.val rfl (run_lenSl Try.underlying54 rfl) ?_
          refine WL.val rfl (run_lss rfl rfl) ?_
          refine WL.nil ?_
          repeat (first | refine CW.seq ?_ | refine CW.block ?_ | refine CW.skip ?_ | refine CW.exit ?_)
          first | refine CW.condP rfl (fun hkl => ?_) (fun hkl => ?_) | refine CW.cond rfl (fun hkl => ?_) (fun hkl => ?_)
          · have hkl' : k < ns.length := by omega
            have hsm := hunm.some1 (by omega)
            obtain ⟨bn, ncap, more, hq1, hqL, hcapn⟩ := hsm
            cases hq1
            subst hqL
            have hnk : (strs ns ++ more)[0 + k * 1]? = some (str ns[k]) := by
              rw [List.getElem?_append_left (by rw [strs_len]; omega)]
              simp [strs, hkl']
            have hnc : ∀ {w : World} {L : List (Nat × Obj)}, Step [] L w0 w → (bn, blk 9 (strs ns ++ more)) ∈ L → w.cell? ⟨bn, 0 + k * 1, none⟩ = some (str ns[k]) := fun hs hm => (cell_blk (hs.get hm) _).trans hnk
            have hfo := findR_ok (n := ns[k]) hoN
            have hfl := Ent.cells_len hfo
            repeat (first | refine CW.seq ?_ | refine CW.block ?_ | refine CW.skip ?_ | refine CW.exit ?_ | refine CW.condT rfl ?_ | refine CW.condF rfl ?_)
            refine CW.reg ?_
            refine WL.val rfl (run_move) ?_
            refine WL.val rfl (run_move) ?_
            refine WL.val rfl (run_move) ?_
            first | refine WL.val rfl (run_ixSlN Try.underlying54 ty9 rfl rfl (by omega)) ?_ | refine WL.val rfl (run_ixSl Try.underlying54 ty9 rfl rfl (by omega)) ?_
            refine WL.val rfl (run_load1 ty9 rfl (hnc hs (by simp))) ?_
            refine WL.enter rfl (run_call en26 rfl rfl) (findQ_spec rfl _ (hesN hs.dropL) hrN (by omega)) ?_
            rintro e w ⟨rfl, hq⟩
            refine ⟨_, rfl, ?_⟩
            replace hs := hs.callE hq
            refine WL.val rfl (run_move) ?_
            refine WL.val rfl (run_extract rfl rfl) ?_
            refine WL.val rfl (run_extract rfl rfl) ?_
            refine WL.alloc ty48 rfl hs (fun b13 w hs => ?_)
            first | refine WL.storeAll ty48 rfl rfl ((hfl)) (Ent.cells1 _) hs (by first | rfl | assumption) (fun w hs => ?_) | refine WL.storeAll_1 ty48 rfl rfl ((hfl)) (Ent.cells1 _) hs (by first | rfl | assumption) (fun w hs => ?_) | refine WL.storeAll_2 ty48 rfl rfl ((hfl)) (Ent.cells1 _) hs (by first | rfl | assumption) (fun w hs => ?_) | refine WL.storeAll_3 ty48 rfl rfl ((hfl)) (Ent.cells1 _) hs (by first | rfl | assumption) (fun w hs => ?_) | refine WL.storeAll_4 ty48 rfl rfl ((hfl)) (Ent.cells1 _) hs (by first | rfl | assumption) (fun w hs => ?_) | refine WL.storeAll ty48 rfl rfl ((hfl)) (Ent.cells1 _) hs (by first | rfl | assumption) (fun w hs => ?_)
            refine WL.val rfl (run_assign) ?_
            refine WL.nil ?_
            by_cases hnn : ns[k] = (l[i]).name
            · have hfo2 := findR_ok (n := ns[k]) hoM
              have hfl2 := Ent.cells_len hfo2
              repeat (first | refine CW.seq ?_ | refine CW.block ?_ | refine CW.skip ?_ | refine CW.exit ?_ | refine CW.condT rfl ?_ | refine CW.condF rfl ?_)
              refine CW.reg ?_
              refine WL.val rfl (run_move) ?_
              refine WL.val rfl (run_move) ?_
              refine WL.val rfl (run_move) ?_
              first | refine WL.val rfl (run_ixSlN Try.underlying54 ty9 rfl rfl (by omega)) ?_ | refine WL.val rfl (run_ixSl Try.underlying54 ty9 rfl rfl (by omega)) ?_
              refine WL.val rfl (run_load1 ty9 rfl (hnc hs (by simp))) ?_
              refine WL.enter rfl (run_call en26 rfl rfl) (findQ_spec rfl _ (hesM hs.tail) hrM (by omega)) ?_
              rintro e w ⟨rfl, hq⟩
              refine ⟨_, rfl, ?_⟩
              replace hs := hs.callE hq
              refine WL.val rfl (run_move) ?_
              refine WL.val rfl (run_extract rfl rfl) ?_
              refine WL.val rfl (run_extract rfl rfl) ?_
              refine WL.alloc ty48 rfl hs (fun b15 w hs => ?_)
              first | refine WL.storeAll ty48 rfl rfl ((hfl2)) (Ent.cells1 _) hs (by first | rfl | assumption) (fun w hs => ?_) | refine WL.storeAll_1 ty48 rfl rfl ((hfl2)) (Ent.cells1 _) hs (by first | rfl | assumption) (fun w hs => ?_) | refine WL.storeAll_2 ty48 rfl rfl ((hfl2)) (Ent.cells1 _) hs (by first | rfl | assumption) (fun w hs => ?_) | refine WL.storeAll_3 ty48 rfl rfl ((hfl2)) (Ent.cells1 _) hs (by first | rfl | assumption) (fun w hs => ?_) | refine WL.storeAll_4 ty48 rfl rfl ((hfl2)) (Ent.cells1 _) hs (by first | rfl | assumption) (fun w hs => ?_) | refine WL.storeAll ty48 rfl rfl ((hfl2)) (Ent.cells1 _) hs (by first | rfl | assumption) (fun w hs => ?_)
              refine WL.val rfl (run_assign) ?_
              refine WL.nil ?_
              repeat (first | refine CW.seq ?_ | refine CW.block ?_ | refine CW.skip ?_ | refine CW.exit ?_ | refine CW.condT rfl ?_ | refine CW.condF rfl ?_)
              refine CW.quiet mixedP (by kernel_rfl) hs ?_
              refine QL.val rfl (fun w hs => run_move) ?_
              refine QL.val rfl (fun w hs => run_move) ?_
              first | refine QL.val rfl (fun w hs => run_ixSlN Try.underlying54 ty9 rfl rfl (by omega)) ?_ | refine QL.val rfl (fun w hs => run_ixSl Try.underlying54 ty9 rfl rfl (by omega)) ?_
              refine QL.val rfl (fun w hs => run_load1 ty9 rfl (hnc hs (by simp))) ?_
              refine QL.val rfl (fun w hs => run_move) ?_
              refine QL.val rfl (fun w hs => run_move) ?_
              first | refine QL.val rfl (fun w hs => run_ixSlN Try.underlying22 ty48 rfl rfl (by omega)) ?_ | refine QL.val rfl (fun w hs => run_ixSl Try.underlying22 ty48 rfl rfl (by omega)) ?_
              refine QL.val rfl (fun w hs => run_field (o' := 0) Try.underlying48 rfl ty9 rfl rfl rfl) ?_
              refine QL.val rfl (fun w hs => run_load1 ty9 rfl ((hax hs).cell (j := 0) rfl)) ?_
              refine QL.val rfl (fun w hs => run_bF (run_strNe rfl rfl) (by exact fun h => h hnn)) ?_
              refine QL.val rfl (fun w hs => run_move) ?_
              first | refine QL.no rfl rfl rfl (.inl rfl) ?_ | refine QL.no rfl rfl rfl (.inr rfl) ?_
              first | refine QL.no rfl rfl rfl (.inl rfl) ?_ | refine QL.no rfl rfl rfl (.inr rfl) ?_
              first | refine QL.no rfl rfl rfl (.inl rfl) ?_ | refine QL.no rfl rfl rfl (.inr rfl) ?_
              first | refine QL.no rfl rfl rfl (.inl rfl) ?_ | refine QL.no rfl rfl rfl (.inr rfl) ?_
              first | refine QL.no rfl rfl rfl (.inl rfl) ?_ | refine QL.no rfl rfl rfl (.inr rfl) ?_
              first | refine QL.no rfl rfl rfl (.inl rfl) ?_ | refine QL.no rfl rfl rfl (.inr rfl) ?_
              first | refine QL.no rfl rfl rfl (.inl rfl) ?_ | refine QL.no rfl rfl rfl (.inr rfl) ?_
              first | refine QL.no rfl rfl rfl (.inl rfl) ?_ | refine QL.no rfl rfl rfl (.inr rfl) ?_
              first | refine QL.val rfl (fun w hs => run_pickT rfl) ?_ | refine QL.val rfl (fun w hs => run_pickF rfl) ?_
              refine QL.nil (fun w hs => ?_)
              replace hs : Step [] (L8 ++ (Lun ++ _)) w0 w := hs.tail.tail
              repeat (first | refine CW.seq ?_ | refine CW.block ?_ | refine CW.skip ?_ | refine CW.exit ?_ | refine CW.condT rfl ?_ | refine CW.condF rfl ?_)
              refine CW.reg ?_
              refine WL.val rfl (run_move) ?_
              refine WL.val rfl (run_add (c := ((k + 1 : Nat) : Int)) rfl rfl (by omega) (by omega)) ?_
              refine WL.val rfl (run_assign) ?_
              refine WL.nil ?_
              repeat (first | refine CW.seq ?_ | refine CW.block ?_ | refine CW.skip ?_ | refine CW.exit ?_)
              refine (show _ ∧ _ from ⟨rfl, _, ?_, k + 1, by omega, rfl, hs, rfl, rfl, rfl, rfl, rfl, rfl, rfl, trivial⟩)
              omega
            · repeat (first | refine CW.seq ?_ | refine CW.block ?_ | refine CW.skip ?_ | refine CW.exit ?_ | refine CW.condT rfl ?_ | refine CW.condF rfl ?_)
              refine CW.reg ?_
              refine WL.val rfl (run_move) ?_
              refine WL.val rfl (run_move) ?_
              refine WL.val rfl (run_move) ?_
              first | refine WL.val rfl (run_ixSlN Try.underlying54 ty9 rfl rfl (by omega)) ?_ | refine WL.val rfl (run_ixSl Try.underlying54 ty9 rfl rfl (by omega)) ?_
              refine WL.val rfl (run_load1 ty9 rfl (hnc hs (by simp))) ?_
              refine WL.enter rfl (run_call en26 rfl rfl) (findQ_spec (hmo _ hnn) _ (hesM hs.tail) hrM (by omega)) ?_
              rintro e w ⟨rfl, hq⟩
              refine ⟨_, rfl, ?_⟩
              replace hs := hs.callE hq
              refine WL.val rfl (run_move) ?_
              refine WL.val rfl (run_extract rfl rfl) ?_
              refine WL.val rfl (run_extract rfl rfl) ?_
              refine WL.alloc ty48 rfl hs (fun b15 w hs => ?_)
              first | refine WL.storeAll ty48 rfl rfl ((hfl)) (Ent.cells1 _) hs (by first | rfl | assumption) (fun w hs => ?_) | refine WL.storeAll_1 ty48 rfl rfl ((hfl)) (Ent.cells1 _) hs (by first | rfl | assumption) (fun w hs => ?_) | refine WL.storeAll_2 ty48 rfl rfl ((hfl)) (Ent.cells1 _) hs (by first | rfl | assumption) (fun w hs => ?_) | refine WL.storeAll_3 ty48 rfl rfl ((hfl)) (Ent.cells1 _) hs (by first | rfl | assumption) (fun w hs => ?_) | refine WL.storeAll_4 ty48 rfl rfl ((hfl)) (Ent.cells1 _) hs (by first | rfl | assumption) (fun w hs => ?_) | refine WL.storeAll ty48 rfl rfl ((hfl)) (Ent.cells1 _) hs (by first | rfl | assumption) (fun w hs => ?_)
              refine WL.val rfl (run_assign) ?_
              refine WL.nil ?_
              repeat (first | refine CW.seq ?_ | refine CW.block ?_ | refine CW.skip ?_ | refine CW.exit ?_ | refine CW.condT rfl ?_ | refine CW.condF rfl ?_)
              refine CW.quiet mixedP (by kernel_rfl) hs ?_
              refine QL.val rfl (fun w hs => run_move) ?_
              refine QL.val rfl (fun w hs => run_move) ?_
              first | refine QL.val rfl (fun w hs => run_ixSlN Try.underlying54 ty9 rfl rfl (by omega)) ?_ | refine QL.val rfl (fun w hs => run_ixSl Try.underlying54 ty9 rfl rfl (by omega)) ?_
              refine QL.val rfl (fun w hs => run_load1 ty9 rfl (hnc hs (by simp))) ?_
              refine QL.val rfl (fun w hs => run_move) ?_
              refine QL.val rfl (fun w hs => run_move) ?_
              first | refine QL.val rfl (fun w hs => run_ixSlN Try.underlying22 ty48 rfl rfl (by omega)) ?_ | refine QL.val rfl (fun w hs => run_ixSl Try.underlying22 ty48 rfl rfl (by omega)) ?_
              refine QL.val rfl (fun w hs => run_field (o' := 0) Try.underlying48 rfl ty9 rfl rfl rfl) ?_
              refine QL.val rfl (fun w hs => run_load1 ty9 rfl ((hax hs).cell (j := 0) rfl)) ?_
              refine QL.val rfl (fun w hs => run_bT (run_strNe rfl rfl) (by exact hnn)) ?_
              refine QL.val rfl (fun w hs => run_move) ?_
              refine QL.yes rfl rfl rfl ?_
              first | refine QL.val rfl (fun w hs => run_loadN ty48 rfl (by first | rfl | assumption | (simp; done)) hs.a0) ?_ | refine QL.val rfl (fun w hs => run_loadN ty48 rfl (by first | rfl | assumption | (simp; done)) hs.a1) ?_ | refine QL.val rfl (fun w hs => run_loadN ty48 rfl (by first | rfl | assumption | (simp; done)) hs.a2) ?_ | refine QL.val rfl (fun w hs => run_loadN ty48 rfl (by first | rfl | assumption | (simp; done)) hs.a3) ?_ | refine QL.val rfl (fun w hs => run_loadN ty48 rfl (by first | rfl | assumption | (simp; done)) hs.a4) ?_ | refine QL.val rfl (fun w hs => run_loadN ty48 rfl (by first | rfl | assumption | (simp; done)) hs.a5) ?_ | refine QL.val rfl (fun w hs => run_loadN ty48 rfl (by first | rfl | assumption | (simp; done)) hs.a0) ?_
              refine QL.yes rfl rfl rfl ?_
              first | refine QL.val rfl (fun w hs => run_loadN ty48 rfl (by first | rfl | assumption | (simp; done)) hs.a0) ?_ | refine QL.val rfl (fun w hs => run_loadN ty48 rfl (by first | rfl | assumption | (simp; done)) hs.a1) ?_ | refine QL.val rfl (fun w hs => run_loadN ty48 rfl (by first | rfl | assumption | (simp; done)) hs.a2) ?_ | refine QL.val rfl (fun w hs => run_loadN ty48 rfl (by first | rfl | assumption | (simp; done)) hs.a3) ?_ | refine QL.val rfl (fun w hs => run_loadN ty48 rfl (by first | rfl | assumption | (simp; done)) hs.a4) ?_ | refine QL.val rfl (fun w hs => run_loadN ty48 rfl (by first | rfl | assumption | (simp; done)) hs.a5) ?_ | refine QL.val rfl (fun w hs => run_loadN ty48 rfl (by first | rfl | assumption | (simp; done)) hs.a0) ?_
              refine QL.yes rfl rfl rfl ?_
              refine QL.val rfl (fun w hs => run_bF (run_neqAgg Ent.lits_iff ent_key (ent_formed hfo) (ent_formed hfo) ent_guard rfl rfl (lits_ent hfo) (lits_ent hfo)) (by simp)) ?_
              refine QL.yes rfl rfl rfl ?_
              refine QL.val rfl (fun w hs => run_move) ?_
              refine QL.yes rfl rfl rfl ?_
              refine QL.val rfl (fun w hs => run_move) ?_
              refine QL.yes rfl rfl rfl ?_
              refine QL.val rfl (fun w hs => run_move) ?_
              refine QL.yes rfl rfl rfl ?_
              refine QL.val rfl (fun w hs => run_neqBs Try.underlying4 rfl rfl) ?_
              refine QL.yes rfl rfl rfl ?_
              first | refine QL.val rfl (fun w hs => run_pickT rfl) ?_ | refine QL.val rfl (fun w hs => run_pickF rfl) ?_
              first | refine QL.val rfl (fun w hs => run_pickT rfl) ?_ | refine QL.val rfl (fun w hs => run_pickF rfl) ?_
              refine QL.nil (fun w hs => ?_)
              replace hs : Step [] (L8 ++ (Lun ++ _)) w0 w := hs.tail.tail
              repeat (first | refine CW.seq ?_ | refine CW.block ?_ | refine CW.skip ?_ | refine CW.exit ?_ | refine CW.condT rfl ?_ | refine CW.condF rfl ?_)
              refine CW.reg ?_
              refine WL.val rfl (run_move) ?_
              refine WL.val rfl (run_add (c := ((k + 1 : Nat) : Int)) rfl rfl (by omega) (by omega)) ?_
              refine WL.val rfl (run_assign) ?_
              refine WL.nil ?_
              repeat (first | refine CW.seq ?_ | refine CW.block ?_ | refine CW.skip ?_ | refine CW.exit ?_)
              refine (show _ ∧ _ from ⟨rfl, _, ?_, k + 1, by omega, rfl, hs, rfl, rfl, rfl, rfl, rfl, rfl, rfl, trivial⟩)
              omega
          · clear hk hkl
            repeat (first | refine CW.seq ?_ | refine CW.block ?_ | refine CW.skip ?_ | refine CW.exit ?_ | refine CW.condT rfl ?_ | refine CW.condF rfl ?_)
            refine CW.reg ?_
            refine WL.val rfl (run_move) ?_
            refine WL.val rfl (run_move) ?_
            refine WL.val rfl (run_move) ?_
            first | refine WL.val rfl (run_ixSlN Try.underlying22 ty48 rfl rfl (by omega)) ?_ | refine WL.val rfl (run_ixSl Try.underlying22 ty48 rfl rfl (by omega)) ?_
            refine WL.val rfl (run_field (o' := 0) Try.underlying48 rfl ty9 rfl rfl rfl) ?_
            refine WL.val rfl (run_load1 ty9 rfl ((hax hs).cell (j := 0) rfl)) ?_
            refine WL.buildSlice (cs := [str (l[i]).name]) Try.underlying54 ty9 rfl (by decide) rfl (filled_s _ _ rfl) rfl hs (fun b135 w hs => ?_)
            have hsl : Sl w 1 (.slice (some ⟨b135, 0, none⟩) 1 1) 1 [str (l[i]).name] := .own1 hs rfl
            refine WL.append Try.underlying54 Try.underlying54 ty9 rfl (by decide) rfl rfl (hunm) ((Step.last3 hs)) (hsl) ((fun v hv => by rw [List.mem_singleton.1 hv]; rfl)) (by first | omega | (simp only [List.length_append, List.length_cons, List.length_nil]; omega)) rfl (fun v136 Lv136 w hv136 hs => ?_)
            refine WL.val rfl (run_assign) ?_
            refine WL.nil ?_
            replace hs : Step [] (L8 ++ Lv136) w0 w := Step.pick2 hs
            have e136 : strs ns ++ [str (l[i]).name] = strs (ns ++ [(l[i]).name]) := by simp [strs]
            rw [e136] at hv136
            repeat (first | refine CW.seq ?_ | refine CW.block ?_ | refine CW.skip ?_ | refine CW.exit ?_ | refine CW.condT rfl ?_ | refine CW.condF rfl ?_)
            refine CW.reg ?_
            refine WL.val rfl (run_move) ?_
            refine WL.val rfl (run_assign) ?_
            refine WL.nil ?_
            have hnl2 : (ns ++ [(l[i]).name]).length ≤ 2 * i + 1 := by simp; omega
            have hobt : ∃ ns2, ns2 = ns ++ [(l[i]).name] := ⟨_, rfl⟩
            obtain ⟨ns2, hns2⟩ := hobt
            have hl136 : ns.length + 1 = ns2.length := by rw [hns2]; simp
            rw [← hns2, hl136] at hv136
            rw [← hns2] at hnl2
            by_cases hio : i < out.length
            · have hsi := str_in ho hio
              obtain ⟨bo, oo, hoa, hoc⟩ := hsi
              subst hoa
              have hobt : ∃ o, out[i] = o := ⟨_, rfl⟩
              obtain ⟨o, ho2⟩ := hobt
              rw [ho2] at hoc
              have hobt : ∃ R, remR o M = R := ⟨_, rfl⟩
              obtain ⟨R, hR⟩ := hobt
              have hrR : Rising R := hR ▸ remR_rising hrM
              have hcR : checkE R = 0 := hR ▸ less_check hcM
              have hoR : Oks R := hR ▸ remR_ok o hoM
              have hRl : R.length ≤ M.length := by rw [← hR]; exact remR_len o M
              have hnR : findR o R = (zE, false) := by rw [← hR]; exact less_none
              repeat (first | refine CW.seq ?_ | refine CW.block ?_ | refine CW.skip ?_ | refine CW.exit ?_ | refine CW.condT rfl ?_ | refine CW.condF rfl ?_)
              refine CW.reg ?_
              refine WL.val rfl (run_move) ?_
              refine WL.val rfl (run_move) ?_
              refine WL.val rfl (run_lenSl Try.underlying54 rfl) ?_
              refine WL.val rfl (run_bT (run_lss rfl rfl) (by omega)) ?_
              refine WL.nil ?_
              repeat (first | refine CW.seq ?_ | refine CW.block ?_ | refine CW.skip ?_ | refine CW.exit ?_ | refine CW.condT rfl ?_ | refine CW.condF rfl ?_)
              refine CW.reg ?_
              refine WL.val rfl (run_move) ?_
              refine WL.val rfl (run_move) ?_
              refine WL.val rfl (run_move) ?_
              first | refine WL.val rfl (run_ixSlN Try.underlying54 ty9 rfl rfl (by omega)) ?_ | refine WL.val rfl (run_ixSl Try.underlying54 ty9 rfl rfl (by omega)) ?_
              refine WL.val rfl (run_load1 ty9 rfl (hoc _ _ hs)) ?_
              refine WL.enter rfl (run_call en24 rfl rfl) (lessQ_spec hR _ (hesM hs) hrM (by omega)) ?_
              rintro e w ⟨u17, L17, rfl, hu17, hq⟩
              refine ⟨_, rfl, ?_⟩
              refine WL.val rfl (run_assign) ?_
              refine WL.nil ?_
              replace hs : Step [] (L17 ++ (L8 ++ Lv136)) w0 w := hs.call0 hq
              have hesR : ∀ {w : World} {L : List (Nat × Obj)}, Step [] (L17 ++ L) w0 w → Es w u17 R := fun hs => hu17.es hoR (by omega) hs
              have hzok : zE.ok := ⟨rfl, by decide, by decide, by decide⟩
              have hzl := Ent.cells_len hzok
              have hform := hu17.form
              obtain ⟨ra, rc, hq17⟩ := hform
              subst hq17
              have hform := hu8.form
              obtain ⟨ma, mc, hq8⟩ := hform
              subst hq8
              rcases hfo : (findR o M).2 with _ | _
              · have hRM : R = M := by rw [← hR]; exact less_same hfo
                have hfp : findR o M = (zE, false) := by
                  rcases findR_cases o M with ⟨y, _, _, h2⟩ | ⟨_, h2⟩
                  · rw [h2] at hfo; cases hfo
                  · exact h2
                repeat (first | refine CW.seq ?_ | refine CW.block ?_ | refine CW.skip ?_ | refine CW.exit ?_ | refine CW.condT rfl ?_ | refine CW.condF rfl ?_)
                refine CW.reg ?_
                refine WL.val rfl (run_move) ?_
                refine WL.val rfl (run_move) ?_
                refine WL.val rfl (run_move) ?_
                first | refine WL.val rfl (run_ixSlN Try.underlying54 ty9 rfl rfl (by omega)) ?_ | refine WL.val rfl (run_ixSl Try.underlying54 ty9 rfl rfl (by omega)) ?_
                refine WL.val rfl (run_load1 ty9 rfl (hoc _ _ hs)) ?_
                refine WL.enter rfl (run_call en26 rfl rfl) (findQ_spec hfp _ (hesM hs.dropL) hrM (by omega)) ?_
                rintro e w ⟨rfl, hq⟩
                refine ⟨_, rfl, ?_⟩
                replace hs := hs.callE hq
                refine WL.val rfl (run_move) ?_
                refine WL.val rfl (run_extract rfl rfl) ?_
                refine WL.val rfl (run_extract rfl rfl) ?_
                refine WL.alloc ty48 rfl hs (fun b18 w hs => ?_)
                first | refine WL.storeAll ty48 rfl rfl ((hzl)) (Ent.cells1 _) hs (by first | rfl | assumption) (fun w hs => ?_) | refine WL.storeAll_1 ty48 rfl rfl ((hzl)) (Ent.cells1 _) hs (by first | rfl | assumption) (fun w hs => ?_) | refine WL.storeAll_2 ty48 rfl rfl ((hzl)) (Ent.cells1 _) hs (by first | rfl | assumption) (fun w hs => ?_) | refine WL.storeAll_3 ty48 rfl rfl ((hzl)) (Ent.cells1 _) hs (by first | rfl | assumption) (fun w hs => ?_) | refine WL.storeAll_4 ty48 rfl rfl ((hzl)) (Ent.cells1 _) hs (by first | rfl | assumption) (fun w hs => ?_) | refine WL.storeAll ty48 rfl rfl ((hzl)) (Ent.cells1 _) hs (by first | rfl | assumption) (fun w hs => ?_)
                refine WL.val rfl (run_assign) ?_
                refine WL.nil ?_
                repeat (first | refine CW.seq ?_ | refine CW.block ?_ | refine CW.skip ?_ | refine CW.exit ?_ | refine CW.condT rfl ?_ | refine CW.condF rfl ?_)
                refine CW.reg ?_
                refine WL.val rfl (run_move) ?_
                refine WL.val rfl (run_move) ?_
                refine WL.val rfl (run_move) ?_
                first | refine WL.val rfl (run_ixSlN Try.underlying54 ty9 rfl rfl (by omega)) ?_ | refine WL.val rfl (run_ixSl Try.underlying54 ty9 rfl rfl (by omega)) ?_
                refine WL.val rfl (run_load1 ty9 rfl (hoc _ _ hs)) ?_
                refine WL.enter rfl (run_call en26 rfl rfl) (findQ_spec hnR _ (hesR hs.tail) hrR (by omega)) ?_
                rintro e w ⟨rfl, hq⟩
                refine ⟨_, rfl, ?_⟩
                replace hs := hs.callE hq
                refine WL.val rfl (run_move) ?_
                refine WL.val rfl (run_extract rfl rfl) ?_
                refine WL.val rfl (run_extract rfl rfl) ?_
                refine WL.alloc ty48 rfl hs (fun b20 w hs => ?_)
                first | refine WL.storeAll ty48 rfl rfl ((hzl)) (Ent.cells1 _) hs (by first | rfl | assumption) (fun w hs => ?_) | refine WL.storeAll_1 ty48 rfl rfl ((hzl)) (Ent.cells1 _) hs (by first | rfl | assumption) (fun w hs => ?_) | refine WL.storeAll_2 ty48 rfl rfl ((hzl)) (Ent.cells1 _) hs (by first | rfl | assumption) (fun w hs => ?_) | refine WL.storeAll_3 ty48 rfl rfl ((hzl)) (Ent.cells1 _) hs (by first | rfl | assumption) (fun w hs => ?_) | refine WL.storeAll_4 ty48 rfl rfl ((hzl)) (Ent.cells1 _) hs (by first | rfl | assumption) (fun w hs => ?_) | refine WL.storeAll ty48 rfl rfl ((hzl)) (Ent.cells1 _) hs (by first | rfl | assumption) (fun w hs => ?_)
                refine WL.val rfl (run_assign) ?_
                refine WL.nil ?_
                repeat (first | refine CW.seq ?_ | refine CW.block ?_ | refine CW.skip ?_ | refine CW.exit ?_ | refine CW.condT rfl ?_ | refine CW.condF rfl ?_)
                refine CW.reg ?_
                refine WL.val rfl (run_move) ?_
                refine WL.val rfl (run_move) ?_
                refine WL.yes rfl rfl rfl ?_
                refine WL.val rfl (run_move) ?_
                refine WL.yes rfl rfl rfl ?_
                refine WL.enter rfl (run_call en13 rfl rfl) (check_spec hcR _ (hesR hs.tail.tail)) ?_
                rintro e w ⟨rfl, hq⟩
                refine ⟨_, rfl, ?_⟩
                replace hs := hs.callE hq
                refine WL.yes rfl rfl rfl ?_
                refine WL.val rfl (run_bF (run_neq rfl rfl) (by decide)) ?_
                first | refine WL.val rfl (run_pickT rfl) ?_ | refine WL.val rfl (run_pickF rfl) ?_
                refine WL.val rfl (run_move) ?_
                refine WL.yes rfl rfl rfl ?_
                refine WL.val rfl (run_move) ?_
                refine WL.yes rfl rfl rfl ?_
                refine WL.val rfl (run_move) ?_
                first | refine WL.no rfl rfl rfl (.inl rfl) ?_ | refine WL.no rfl rfl rfl (.inr rfl) ?_
                first | refine WL.no rfl rfl rfl (.inl rfl) ?_ | refine WL.no rfl rfl rfl (.inr rfl) ?_
                first | refine WL.no rfl rfl rfl (.inl rfl) ?_ | refine WL.no rfl rfl rfl (.inr rfl) ?_
                first | refine WL.no rfl rfl rfl (.inl rfl) ?_ | refine WL.no rfl rfl rfl (.inr rfl) ?_
                first | refine WL.no rfl rfl rfl (.inl rfl) ?_ | refine WL.no rfl rfl rfl (.inr rfl) ?_
                first | refine WL.no rfl rfl rfl (.inl rfl) ?_ | refine WL.no rfl rfl rfl (.inr rfl) ?_
                first | refine WL.no rfl rfl rfl (.inl rfl) ?_ | refine WL.no rfl rfl rfl (.inr rfl) ?_
                first | refine WL.no rfl rfl rfl (.inl rfl) ?_ | refine WL.no rfl rfl rfl (.inr rfl) ?_
                first | refine WL.no rfl rfl rfl (.inl rfl) ?_ | refine WL.no rfl rfl rfl (.inr rfl) ?_
                first | refine WL.no rfl rfl rfl (.inl rfl) ?_ | refine WL.no rfl rfl rfl (.inr rfl) ?_
                first | refine WL.no rfl rfl rfl (.inl rfl) ?_ | refine WL.no rfl rfl rfl (.inr rfl) ?_
                first | refine WL.no rfl rfl rfl (.inl rfl) ?_ | refine WL.no rfl rfl rfl (.inr rfl) ?_
                first | refine WL.no rfl rfl rfl (.inl rfl) ?_ | refine WL.no rfl rfl rfl (.inr rfl) ?_
                first | refine WL.no rfl rfl rfl (.inl rfl) ?_ | refine WL.no rfl rfl rfl (.inr rfl) ?_
                refine WL.yes rfl rfl rfl ?_
                first | refine WL.val rfl (run_pickT rfl) ?_ | refine WL.val rfl (run_pickF rfl) ?_
                first | refine WL.val rfl (run_pickT rfl) ?_ | refine WL.val rfl (run_pickF rfl) ?_
                refine WL.val rfl (run_move) ?_
                refine WL.yes rfl rfl rfl ?_
                refine WL.val rfl (run_move) ?_
                refine WL.yes rfl rfl rfl ?_
                first | refine WL.val rfl (run_notB rfl) ?_ | refine WL.val rfl (run_not rfl) ?_
                refine WL.yes rfl rfl rfl ?_
                refine WL.val rfl (run_move) ?_
                refine WL.yes rfl rfl rfl ?_
                refine WL.val rfl (run_move) ?_
                refine WL.yes rfl rfl rfl ?_
                refine WL.val rfl (run_move) ?_
                refine WL.yes rfl rfl rfl ?_
                refine WL.enter rfl (run_call en22 rfl rfl) (same_true hRM _ (hesR hs.tail.tail) (hesM hs.tail.tail.dropL)) ?_
                rintro e w ⟨rfl, hq⟩
                refine ⟨_, rfl, ?_⟩
                replace hs := hs.callE hq
                refine WL.yes rfl rfl rfl ?_
                first | refine WL.val rfl (run_notB rfl) ?_ | refine WL.val rfl (run_not rfl) ?_
                refine WL.yes rfl rfl rfl ?_
                first | refine WL.val rfl (run_pickT rfl) ?_ | refine WL.val rfl (run_pickF rfl) ?_
                first | refine WL.val rfl (run_pickT rfl) ?_ | refine WL.val rfl (run_pickF rfl) ?_
                refine WL.nil ?_
                have hs5 := hs.tail.tail
                replace hs : Step [] (L17 ++ (L8 ++ Lv136)) w0 w := hs5
                repeat (first | refine CW.seq ?_ | refine CW.block ?_ | refine CW.skip ?_ | refine CW.exit ?_ | refine CW.condT rfl ?_ | refine CW.condF rfl ?_)
                refine CW.reg ?_
                refine WL.val rfl (run_move) ?_
                refine WL.val rfl (run_move) ?_
                refine WL.val rfl (run_move) ?_
                first | refine WL.val rfl (run_ixSlN Try.underlying54 ty9 rfl rfl (by omega)) ?_ | refine WL.val rfl (run_ixSl Try.underlying54 ty9 rfl rfl (by omega)) ?_
                refine WL.val rfl (run_load1 ty9 rfl (hoc _ _ hs)) ?_
                refine WL.buildSlice (cs := [str o]) Try.underlying54 ty9 rfl (by decide) rfl (filled_s _ _ rfl) rfl hs (fun b206 w hs => ?_)
                have hsl : Sl w 1 (.slice (some ⟨b206, 0, none⟩) 1 1) 1 [str o] := .own1 hs rfl
                refine WL.append Try.underlying54 Try.underlying54 ty9 rfl (by decide) rfl rfl (hv136) ((Step.last3 hs)) (hsl) ((fun v hv => by rw [List.mem_singleton.1 hv]; rfl)) (by first | omega | (simp only [List.length_append, List.length_cons, List.length_nil]; omega)) rfl (fun v207 Lv207 w hv207 hs => ?_)
                refine WL.val rfl (run_assign) ?_
                refine WL.nil ?_
                replace hs : Step [] (L17 ++ Lv207) w0 w := Step.pick2 hs
                have e207 : strs ns2 ++ [str o] = strs (ns2 ++ [o]) := by simp [strs]
                rw [e207] at hv207
                repeat (first | refine CW.seq ?_ | refine CW.block ?_ | refine CW.skip ?_ | refine CW.exit ?_ | refine CW.condT rfl ?_ | refine CW.condF rfl ?_)
                refine CW.reg ?_
                refine WL.val rfl (run_move) ?_
                refine WL.val rfl (run_assign) ?_
                refine WL.nil ?_
                repeat (first | refine CW.seq ?_ | refine CW.block ?_ | refine CW.skip ?_ | refine CW.exit ?_ | refine CW.condT rfl ?_ | refine CW.condF rfl ?_)
                refine CW.reg ?_
                refine WL.val rfl (run_move) ?_
                refine WL.val rfl (run_add (c := ((i + 1 : Nat) : Int)) rfl rfl (by omega) (by omega)) ?_
                refine WL.val rfl (run_assign) ?_
                refine WL.nil ?_
                repeat (first | refine CW.seq ?_ | refine CW.block ?_ | refine CW.skip ?_ | refine CW.exit ?_)
                refine (show _ ∧ _ from ⟨rfl, _, ?_, i + 1, R, ns2 ++ [o], _, L17, _, Lv207, by omega, by omega, rfl, hcR, by omega, by simp; omega, hu17, hoR, by rw [List.length_append]; exact hv207, hs, rfl, rfl, rfl, rfl, rfl, trivial⟩)
                omega
              · have hobt : ∃ y, (findR o M).1 = y := ⟨_, rfl⟩
                obtain ⟨y, hy⟩ := hobt
                have hone := less_one hrM hfo
                rw [hy, hR] at hone
                obtain ⟨hR1, hR2, hyM⟩ := hone
                have hMpos : 0 < M.length := List.length_pos_of_mem hyM
                have hyok := hoM y hyM
                have hycl := Ent.cells_len hyok
                have hfp : findR o M = (y, true) := Prod.ext hy hfo
                repeat (first | refine CW.seq ?_ | refine CW.block ?_ | refine CW.skip ?_ | refine CW.exit ?_ | refine CW.condT rfl ?_ | refine CW.condF rfl ?_)
                refine CW.reg ?_
                refine WL.val rfl (run_move) ?_
                refine WL.val rfl (run_move) ?_
                refine WL.val rfl (run_move) ?_
                first | refine WL.val rfl (run_ixSlN Try.underlying54 ty9 rfl rfl (by omega)) ?_ | refine WL.val rfl (run_ixSl Try.underlying54 ty9 rfl rfl (by omega)) ?_
                refine WL.val rfl (run_load1 ty9 rfl (hoc _ _ hs)) ?_
                refine WL.enter rfl (run_call en26 rfl rfl) (findQ_spec hfp _ (hesM hs.dropL) hrM (by omega)) ?_
                rintro e w ⟨rfl, hq⟩
                refine ⟨_, rfl, ?_⟩
                replace hs := hs.callE hq
                refine WL.val rfl (run_move) ?_
                refine WL.val rfl (run_extract rfl rfl) ?_
                refine WL.val rfl (run_extract rfl rfl) ?_
                refine WL.alloc ty48 rfl hs (fun b18 w hs => ?_)
                first | refine WL.storeAll ty48 rfl rfl ((hycl)) (Ent.cells1 _) hs (by first | rfl | assumption) (fun w hs => ?_) | refine WL.storeAll_1 ty48 rfl rfl ((hycl)) (Ent.cells1 _) hs (by first | rfl | assumption) (fun w hs => ?_) | refine WL.storeAll_2 ty48 rfl rfl ((hycl)) (Ent.cells1 _) hs (by first | rfl | assumption) (fun w hs => ?_) | refine WL.storeAll_3 ty48 rfl rfl ((hycl)) (Ent.cells1 _) hs (by first | rfl | assumption) (fun w hs => ?_) | refine WL.storeAll_4 ty48 rfl rfl ((hycl)) (Ent.cells1 _) hs (by first | rfl | assumption) (fun w hs => ?_) | refine WL.storeAll ty48 rfl rfl ((hycl)) (Ent.cells1 _) hs (by first | rfl | assumption) (fun w hs => ?_)
                refine WL.val rfl (run_assign) ?_
                refine WL.nil ?_
                repeat (first | refine CW.seq ?_ | refine CW.block ?_ | refine CW.skip ?_ | refine CW.exit ?_ | refine CW.condT rfl ?_ | refine CW.condF rfl ?_)
                refine CW.reg ?_
                refine WL.val rfl (run_move) ?_
                refine WL.val rfl (run_move) ?_
                refine WL.val rfl (run_move) ?_
                first | refine WL.val rfl (run_ixSlN Try.underlying54 ty9 rfl rfl (by omega)) ?_ | refine WL.val rfl (run_ixSl Try.underlying54 ty9 rfl rfl (by omega)) ?_
                refine WL.val rfl (run_load1 ty9 rfl (hoc _ _ hs)) ?_
                refine WL.enter rfl (run_call en26 rfl rfl) (findQ_spec hnR _ (hesR hs.tail) hrR (by omega)) ?_
                rintro e w ⟨rfl, hq⟩
                refine ⟨_, rfl, ?_⟩
                replace hs := hs.callE hq
                refine WL.val rfl (run_move) ?_
                refine WL.val rfl (run_extract rfl rfl) ?_
                refine WL.val rfl (run_extract rfl rfl) ?_
                refine WL.alloc ty48 rfl hs (fun b20 w hs => ?_)
                first | refine WL.storeAll ty48 rfl rfl ((hzl)) (Ent.cells1 _) hs (by first | rfl | assumption) (fun w hs => ?_) | refine WL.storeAll_1 ty48 rfl rfl ((hzl)) (Ent.cells1 _) hs (by first | rfl | assumption) (fun w hs => ?_) | refine WL.storeAll_2 ty48 rfl rfl ((hzl)) (Ent.cells1 _) hs (by first | rfl | assumption) (fun w hs => ?_) | refine WL.storeAll_3 ty48 rfl rfl ((hzl)) (Ent.cells1 _) hs (by first | rfl | assumption) (fun w hs => ?_) | refine WL.storeAll_4 ty48 rfl rfl ((hzl)) (Ent.cells1 _) hs (by first | rfl | assumption) (fun w hs => ?_) | refine WL.storeAll ty48 rfl rfl ((hzl)) (Ent.cells1 _) hs (by first | rfl | assumption) (fun w hs => ?_)
                refine WL.val rfl (run_assign) ?_
                refine WL.nil ?_
                repeat (first | refine CW.seq ?_ | refine CW.block ?_ | refine CW.skip ?_ | refine CW.exit ?_ | refine CW.condT rfl ?_ | refine CW.condF rfl ?_)
                refine CW.reg ?_
                refine WL.val rfl (run_move) ?_
                refine WL.val rfl (run_move) ?_
                refine WL.yes rfl rfl rfl ?_
                refine WL.val rfl (run_move) ?_
                refine WL.yes rfl rfl rfl ?_
                refine WL.enter rfl (run_call en13 rfl rfl) (check_spec hcR _ (hesR hs.tail.tail)) ?_
                rintro e w ⟨rfl, hq⟩
                refine ⟨_, rfl, ?_⟩
                replace hs := hs.callE hq
                refine WL.yes rfl rfl rfl ?_
                refine WL.val rfl (run_bF (run_neq rfl rfl) (by decide)) ?_
                first | refine WL.val rfl (run_pickT rfl) ?_ | refine WL.val rfl (run_pickF rfl) ?_
                refine WL.val rfl (run_move) ?_
                refine WL.yes rfl rfl rfl ?_
                refine WL.val rfl (run_move) ?_
                refine WL.yes rfl rfl rfl ?_
                refine WL.val rfl (run_move) ?_
                refine WL.yes rfl rfl rfl ?_
                refine WL.val rfl (run_move) ?_
                refine WL.yes rfl rfl rfl ?_
                refine WL.val rfl (run_lenSl Try.underlying22 rfl) ?_
                refine WL.yes rfl rfl rfl ?_
                refine WL.val rfl (run_move) ?_
                refine WL.yes rfl rfl rfl ?_
                refine WL.val rfl (run_lenSl Try.underlying22 rfl) ?_
                refine WL.yes rfl rfl rfl ?_
                refine WL.val rfl (run_sub (c := ((M.length - 1 : Nat) : Int)) rfl rfl (by omega) (by omega)) ?_
                refine WL.yes rfl rfl rfl ?_
                refine WL.val rfl (run_bF (run_neq rfl rfl) (by omega)) ?_
                refine WL.yes rfl rfl rfl ?_
                refine WL.val rfl (run_move) ?_
                refine WL.yes rfl rfl rfl ?_
                refine WL.val rfl (run_move) ?_
                refine WL.yes rfl rfl rfl ?_
                first | refine WL.val rfl (run_loadN ty48 rfl (by first | rfl | assumption | (simp; done)) hs.a0) ?_ | refine WL.val rfl (run_loadN ty48 rfl (by first | rfl | assumption | (simp; done)) hs.a1) ?_ | refine WL.val rfl (run_loadN ty48 rfl (by first | rfl | assumption | (simp; done)) hs.a2) ?_ | refine WL.val rfl (run_loadN ty48 rfl (by first | rfl | assumption | (simp; done)) hs.a3) ?_ | refine WL.val rfl (run_loadN ty48 rfl (by first | rfl | assumption | (simp; done)) hs.a4) ?_ | refine WL.val rfl (run_loadN ty48 rfl (by first | rfl | assumption | (simp; done)) hs.a5) ?_ | refine WL.val rfl (run_loadN ty48 rfl (by first | rfl | assumption | (simp; done)) hs.a0) ?_
                refine WL.yes rfl rfl rfl ?_
                refine WL.enter rfl (run_call en28 rfl rfl) (withQ_spec hR2 _ (hesR hs.tail.tail) hrR (by omega) hyok) ?_
                rintro e w ⟨u184, L184, rfl, hu184, hq⟩
                refine ⟨_, rfl, ?_⟩
                replace hs := hs.call0 hq
                refine WL.yes rfl rfl rfl ?_
                refine WL.val rfl (run_move) ?_
                refine WL.yes rfl rfl rfl ?_
                refine WL.enter rfl (run_call en22 rfl rfl) (same_true rfl _ (hu184.es hoM (by omega) hs) (hesM (Step.dropL (Step.tail (Step.tail (Step.dropL hs)))))) ?_
                rintro e w ⟨rfl, hq⟩
                refine ⟨_, rfl, ?_⟩
                replace hs := hs.callE hq
                refine WL.yes rfl rfl rfl ?_
                first | refine WL.val rfl (run_notB rfl) ?_ | refine WL.val rfl (run_not rfl) ?_
                refine WL.yes rfl rfl rfl ?_
                first | refine WL.val rfl (run_pickT rfl) ?_ | refine WL.val rfl (run_pickF rfl) ?_
                refine WL.yes rfl rfl rfl ?_
                first | refine WL.val rfl (run_pickT rfl) ?_ | refine WL.val rfl (run_pickF rfl) ?_
                first | refine WL.val rfl (run_pickT rfl) ?_ | refine WL.val rfl (run_pickF rfl) ?_
                refine WL.val rfl (run_move) ?_
                refine WL.yes rfl rfl rfl ?_
                refine WL.val rfl (run_move) ?_
                refine WL.yes rfl rfl rfl ?_
                first | refine WL.val rfl (run_notB rfl) ?_ | refine WL.val rfl (run_not rfl) ?_
                refine WL.yes rfl rfl rfl ?_
                refine WL.val rfl (run_move) ?_
                first | refine WL.no rfl rfl rfl (.inl rfl) ?_ | refine WL.no rfl rfl rfl (.inr rfl) ?_
                first | refine WL.no rfl rfl rfl (.inl rfl) ?_ | refine WL.no rfl rfl rfl (.inr rfl) ?_
                first | refine WL.no rfl rfl rfl (.inl rfl) ?_ | refine WL.no rfl rfl rfl (.inr rfl) ?_
                first | refine WL.no rfl rfl rfl (.inl rfl) ?_ | refine WL.no rfl rfl rfl (.inr rfl) ?_
                refine WL.yes rfl rfl rfl ?_
                first | refine WL.val rfl (run_pickT rfl) ?_ | refine WL.val rfl (run_pickF rfl) ?_
                first | refine WL.val rfl (run_pickT rfl) ?_ | refine WL.val rfl (run_pickF rfl) ?_
                refine WL.nil ?_
                have hs5 := Step.tail (Step.tail (Step.dropL hs))
                replace hs : Step [] (L17 ++ (L8 ++ Lv136)) w0 w := hs5
                repeat (first | refine CW.seq ?_ | refine CW.block ?_ | refine CW.skip ?_ | refine CW.exit ?_ | refine CW.condT rfl ?_ | refine CW.condF rfl ?_)
                refine CW.reg ?_
                refine WL.val rfl (run_move) ?_
                refine WL.val rfl (run_move) ?_
                refine WL.val rfl (run_move) ?_
                first | refine WL.val rfl (run_ixSlN Try.underlying54 ty9 rfl rfl (by omega)) ?_ | refine WL.val rfl (run_ixSl Try.underlying54 ty9 rfl rfl (by omega)) ?_
                refine WL.val rfl (run_load1 ty9 rfl (hoc _ _ hs)) ?_
                refine WL.buildSlice (cs := [str o]) Try.underlying54 ty9 rfl (by decide) rfl (filled_s _ _ rfl) rfl hs (fun b206 w hs => ?_)
                have hsl : Sl w 1 (.slice (some ⟨b206, 0, none⟩) 1 1) 1 [str o] := .own1 hs rfl
                refine WL.append Try.underlying54 Try.underlying54 ty9 rfl (by decide) rfl rfl (hv136) ((Step.last3 hs)) (hsl) ((fun v hv => by rw [List.mem_singleton.1 hv]; rfl)) (by first | omega | (simp only [List.length_append, List.length_cons, List.length_nil]; omega)) rfl (fun v207 Lv207 w hv207 hs => ?_)
                refine WL.val rfl (run_assign) ?_
                refine WL.nil ?_
                replace hs : Step [] (L17 ++ Lv207) w0 w := Step.pick2 hs
                have e207 : strs ns2 ++ [str o] = strs (ns2 ++ [o]) := by simp [strs]
                rw [e207] at hv207
                repeat (first | refine CW.seq ?_ | refine CW.block ?_ | refine CW.skip ?_ | refine CW.exit ?_ | refine CW.condT rfl ?_ | refine CW.condF rfl ?_)
                refine CW.reg ?_
                refine WL.val rfl (run_move) ?_
                refine WL.val rfl (run_assign) ?_
                refine WL.nil ?_
                repeat (first | refine CW.seq ?_ | refine CW.block ?_ | refine CW.skip ?_ | refine CW.exit ?_ | refine CW.condT rfl ?_ | refine CW.condF rfl ?_)
                refine CW.reg ?_
                refine WL.val rfl (run_move) ?_
                refine WL.val rfl (run_add (c := ((i + 1 : Nat) : Int)) rfl rfl (by omega) (by omega)) ?_
                refine WL.val rfl (run_assign) ?_
                refine WL.nil ?_
                repeat (first | refine CW.seq ?_ | refine CW.block ?_ | refine CW.skip ?_ | refine CW.exit ?_)
                refine (show _ ∧ _ from ⟨rfl, _, ?_, i + 1, R, ns2 ++ [o], _, L17, _, Lv207, by omega, by omega, rfl, hcR, by omega, by simp; omega, hu17, hoR, by rw [List.length_append]; exact hv207, hs, rfl, rfl, rfl, rfl, rfl, trivial⟩)
                omega
            · repeat (first | refine CW.seq ?_ | refine CW.block ?_ | refine CW.skip ?_ | refine CW.exit ?_ | refine CW.condT rfl ?_ | refine CW.condF rfl ?_)
              refine CW.reg ?_
              refine WL.val rfl (run_move) ?_
              refine WL.val rfl (run_move) ?_
              refine WL.val rfl (run_lenSl Try.underlying54 rfl) ?_
              refine WL.val rfl (run_bF (run_lss rfl rfl) (by omega)) ?_
              refine WL.nil ?_
              repeat (first | refine CW.seq ?_ | refine CW.block ?_ | refine CW.skip ?_ | refine CW.exit ?_ | refine CW.condT rfl ?_ | refine CW.condF rfl ?_)
              refine CW.reg ?_
              refine WL.val rfl (run_move) ?_
              refine WL.val rfl (run_add (c := ((i + 1 : Nat) : Int)) rfl rfl (by omega) (by omega)) ?_
              refine WL.val rfl (run_assign) ?_
              refine WL.nil ?_
              repeat (first | refine CW.seq ?_ | refine CW.block ?_ | refine CW.skip ?_ | refine CW.exit ?_)
              refine (show _ ∧ _ from ⟨rfl, _, ?_, i + 1, M, ns2, u8, L8, v136, Lv136, by omega, by omega, rfl, hcM, by omega, by omega, hu8, hoM, hv136, hs, rfl, rfl, rfl, rfl, rfl, trivial⟩)
              omega
      · repeat (first | refine CW.seq ?_ | refine CW.block ?_ | refine CW.skip ?_ | refine CW.exit ?_ | refine CW.condT rfl ?_ | refine CW.condF rfl ?_)
        refine CW.reg ?_
        refine WL.val rfl (run_move) ?_
        refine WL.val rfl (run_move) ?_
        refine WL.val rfl (run_move) ?_
        refine WL.val rfl (run_add (c := ((i + 1 : Nat) : Int)) rfl rfl (by omega) (by omega)) ?_
        refine WL.val rfl (run_sliceSlE (lo := i) (hi := i + 1) (m := vc) Try.underlying22 ty48 rfl rfl rfl rfl (by simp) (by omega) (by omega) (by omega) hcut) ?_
        refine WL.enter rfl (run_call en14 rfl rfl) (checkR_spec (l := [l[i]]) rfl _ hes1 hr1) ?_
        rintro e w ⟨rfl, hq⟩
        refine ⟨_, rfl, ?_⟩
        replace hs := hs.callE hq
        refine WL.val rfl (run_bT (run_neq rfl rfl) (by exact hcx)) ?_
        refine WL.nil ?_
        repeat (first | refine CW.seq ?_ | refine CW.block ?_ | refine CW.skip ?_ | refine CW.exit ?_ | refine CW.condT rfl ?_ | refine CW.condF rfl ?_)
        refine CW.reg ?_
        refine WL.val rfl (run_move) ?_
        refine WL.val rfl (run_add (c := ((i + 1 : Nat) : Int)) rfl rfl (by omega) (by omega)) ?_
        refine WL.val rfl (run_assign) ?_
        refine WL.nil ?_
        repeat (first | refine CW.seq ?_ | refine CW.block ?_ | refine CW.skip ?_ | refine CW.exit ?_)
        refine (show _ ∧ _ from ⟨rfl, _, ?_, i + 1, N, ns, un, Lun, unm, Lnm, by omega, by omega, rfl, hcN, by omega, by omega, hun, hoN, hunm, hs, rfl, rfl, rfl, rfl, rfl, trivial⟩)
        omega
    · have hform := hun.form
      obtain ⟨ua, uc, hqu⟩ := hform
      subst hqu
      by_cases hlt : i < l.length
      · repeat (first | refine CW.seq ?_ | refine CW.block ?_ | refine CW.skip ?_ | refine CW.exit ?_ | refine CW.condT rfl ?_ | refine CW.condF rfl ?_)
        refine CW.reg ?_
        refine WL.val rfl (run_move) ?_
        refine WL.val rfl (run_move) ?_
        refine WL.val rfl (run_lenSl Try.underlying22 rfl) ?_
        refine WL.val rfl (run_bT (run_lss rfl rfl) (by omega)) ?_
        refine WL.val rfl (run_move) ?_
        refine WL.yes rfl rfl rfl ?_
        refine WL.val rfl (run_move) ?_
        refine WL.yes rfl rfl rfl ?_
        refine WL.val rfl (run_bF (run_lss rfl rfl) (by omega)) ?_
        first | refine WL.val rfl (run_pickT rfl) ?_ | refine WL.val rfl (run_pickF rfl) ?_
        refine WL.nil ?_
        repeat (first | refine CW.seq ?_ | refine CW.block ?_ | refine CW.skip ?_ | refine CW.exit ?_ | refine CW.condT rfl ?_ | refine CW.condF rfl ?_)
        refine CW.reg ?_
        refine WL.val rfl (run_assign) ?_
        refine WL.nil ?_
        repeat (first | refine CW.seq ?_ | refine CW.block ?_ | refine CW.skip ?_ | refine CW.exit ?_ | refine CW.condT rfl ?_ | refine CW.condF rfl ?_)
        refine CW.loop (fun m f w' => ∃ k, 1 ≤ k ∧ m = N.length - k ∧ Step [] (Lun ++ Lnm) w0 w' ∧ Holds f [(5, .slice ua N.length uc), (22, .int .i64 k)]) (m := N.length - 1) ?_ ?_
        · exact ⟨1, by omega, by omega, hs, rfl, rfl, trivial⟩
        · clear hs
          rintro m f w ⟨k, hk, rfl, hs, hf⟩
          have hobt := hf.chain
          obtain ⟨g, rfl⟩ := hobt
          repeat (first | refine CW.seq ?_ | refine CW.block ?_ | refine CW.skip ?_ | refine CW.exit ?_ | refine CW.condT rfl ?_ | refine CW.condF rfl ?_)
          refine CW.reg ?_
          refine WL.val rfl (run_move) ?_
          refine WL.val rfl (run_move) ?_
          refine WL.val rfl (run_lenSl Try.underlying22 rfl) ?_
          refine WL.val rfl (run_lss rfl rfl) ?_
          refine WL.nil ?_
          repeat (first | refine CW.seq ?_ | refine CW.block ?_ | refine CW.skip ?_ | refine CW.exit ?_)
          first | refine CW.condP rfl (fun hkl => ?_) (fun hkl => ?_) | refine CW.cond rfl (fun hkl => ?_) (fun hkl => ?_)
          · have hkl' : k < N.length := by omega
            have hsm := hun.some1 (by omega)
            obtain ⟨bn, ncap, more, hq1, hqL, hcapn⟩ := hsm
            cases hq1
            subst hqL
            have hN : ∀ {w : World} {L : List (Nat × Obj)} (j : Nat) (hj : j < N.length), Step [] ((bn, blk 48 (rows N ++ more)) :: L) w0 w → At w bn (0 + j * 34) (N[j]).cells := fun j hj hs => ((At.of_blk (T := 48) hs.hd).left).ent hoN hj
            have hlt := rising_lt hrN (i := k - 1) (j := k) hkl' (by omega)
            repeat (first | refine CW.seq ?_ | refine CW.block ?_ | refine CW.skip ?_ | refine CW.exit ?_ | refine CW.condT rfl ?_ | refine CW.condF rfl ?_)
            refine CW.quiet mixedP (by kernel_rfl) hs ?_
            refine QL.val rfl (fun w hs => run_move) ?_
            refine QL.val rfl (fun w hs => run_move) ?_
            refine QL.val rfl (fun w hs => run_sub (c := ((k - 1 : Nat) : Int)) rfl rfl (by omega) (by omega)) ?_
            first | refine QL.val rfl (fun w hs => run_ixSlN Try.underlying22 ty48 rfl rfl (by omega)) ?_ | refine QL.val rfl (fun w hs => run_ixSl Try.underlying22 ty48 rfl rfl (by omega)) ?_
            refine QL.val rfl (fun w hs => run_field (o' := 0) Try.underlying48 rfl ty9 rfl rfl rfl) ?_
            refine QL.val rfl (fun w hs => run_load1 ty9 rfl ((hN (k - 1) (by omega) hs).cell (j := 0) rfl)) ?_
            refine QL.val rfl (fun w hs => run_move) ?_
            refine QL.val rfl (fun w hs => run_move) ?_
            first | refine QL.val rfl (fun w hs => run_ixSlN Try.underlying22 ty48 rfl rfl (by omega)) ?_ | refine QL.val rfl (fun w hs => run_ixSl Try.underlying22 ty48 rfl rfl (by omega)) ?_
            refine QL.val rfl (fun w hs => run_field (o' := 0) Try.underlying48 rfl ty9 rfl rfl rfl) ?_
            refine QL.val rfl (fun w hs => run_load1 ty9 rfl ((hN k hkl' hs).cell (j := 0) rfl)) ?_
            refine QL.val rfl (fun w hs => run_bE (run_strGe rfl rfl) (by rw [hlt])) ?_
            refine QL.nil (fun w hs => ?_)
            repeat (first | refine CW.seq ?_ | refine CW.block ?_ | refine CW.skip ?_ | refine CW.exit ?_ | refine CW.condT rfl ?_ | refine CW.condF rfl ?_)
            refine CW.reg ?_
            refine WL.val rfl (run_move) ?_
            refine WL.val rfl (run_add (c := ((k + 1 : Nat) : Int)) rfl rfl (by omega) (by omega)) ?_
            refine WL.val rfl (run_assign) ?_
            refine WL.nil ?_
            repeat (first | refine CW.seq ?_ | refine CW.block ?_ | refine CW.skip ?_ | refine CW.exit ?_)
            refine (show _ ∧ _ from ⟨rfl, _, ?_, k + 1, by omega, rfl, hs, rfl, rfl, trivial⟩)
            omega
          · repeat (first | refine CW.seq ?_ | refine CW.block ?_ | refine CW.skip ?_ | refine CW.exit ?_ | refine CW.condT rfl ?_ | refine CW.condF rfl ?_)
            refine CW.reg ?_
            refine WL.val rfl (run_assign) ?_
            refine WL.nil ?_
            repeat (first | refine CW.seq ?_ | refine CW.block ?_ | refine CW.skip ?_ | refine CW.exit ?_ | refine CW.condT rfl ?_ | refine CW.condF rfl ?_)
            refine CW.ret ?_
            refine fin_ret1 rfl ?_
            exact ⟨rfl, hs.clear⟩
      · repeat (first | refine CW.seq ?_ | refine CW.block ?_ | refine CW.skip ?_ | refine CW.exit ?_ | refine CW.condT rfl ?_ | refine CW.condF rfl ?_)
        refine CW.reg ?_
        refine WL.val rfl (run_move) ?_
        refine WL.val rfl (run_move) ?_
        refine WL.val rfl (run_lenSl Try.underlying22 rfl) ?_
        refine WL.val rfl (run_bF (run_lss rfl rfl) (by omega)) ?_
        refine WL.val rfl (run_move) ?_
        first | refine WL.no rfl rfl rfl (.inl rfl) ?_ | refine WL.no rfl rfl rfl (.inr rfl) ?_
        first | refine WL.no rfl rfl rfl (.inl rfl) ?_ | refine WL.no rfl rfl rfl (.inr rfl) ?_
        first | refine WL.val rfl (run_pickT rfl) ?_ | refine WL.val rfl (run_pickF rfl) ?_
        refine WL.nil ?_
        repeat (first | refine CW.seq ?_ | refine CW.block ?_ | refine CW.skip ?_ | refine CW.exit ?_ | refine CW.condT rfl ?_ | refine CW.condF rfl ?_)
        refine CW.reg ?_
        refine WL.val rfl (run_assign) ?_
        refine WL.nil ?_
        repeat (first | refine CW.seq ?_ | refine CW.block ?_ | refine CW.skip ?_ | refine CW.exit ?_ | refine CW.condT rfl ?_ | refine CW.condF rfl ?_)
        refine CW.loop (fun m f w' => ∃ k, 1 ≤ k ∧ m = N.length - k ∧ Step [] (Lun ++ Lnm) w0 w' ∧ Holds f [(5, .slice ua N.length uc), (22, .int .i64 k)]) (m := N.length - 1) ?_ ?_
        · exact ⟨1, by omega, by omega, hs, rfl, rfl, trivial⟩
        · clear hs
          rintro m f w ⟨k, hk, rfl, hs, hf⟩
          have hobt := hf.chain
          obtain ⟨g, rfl⟩ := hobt
          repeat (first | refine CW.seq ?_ | refine CW.block ?_ | refine CW.skip ?_ | refine CW.exit ?_ | refine CW.condT rfl ?_ | refine CW.condF rfl ?_)
          refine CW.reg ?_
          refine WL.val rfl (run_move) ?_
          refine WL.val rfl (run_move) ?_
          refine WL.val rfl (run_lenSl Try.underlying22 rfl) ?_
          refine WL.val rfl (run_lss rfl rfl) ?_
          refine WL.nil ?_
          repeat (first | refine CW.seq ?_ | refine CW.block ?_ | refine CW.skip ?_ | refine CW.exit ?_)
          first | refine CW.condP rfl (fun hkl => ?_) (fun hkl => ?_) | refine CW.cond rfl (fun hkl => ?_) (fun hkl => ?_)
          · have hkl' : k < N.length := by omega
            have hsm := hun.some1 (by omega)
            obtain ⟨bn, ncap, more, hq1, hqL, hcapn⟩ := hsm
            cases hq1
            subst hqL
            have hN : ∀ {w : World} {L : List (Nat × Obj)} (j : Nat) (hj : j < N.length), Step [] ((bn, blk 48 (rows N ++ more)) :: L) w0 w → At w bn (0 + j * 34) (N[j]).cells := fun j hj hs => ((At.of_blk (T := 48) hs.hd).left).ent hoN hj
            have hlt := rising_lt hrN (i := k - 1) (j := k) hkl' (by omega)
            repeat (first | refine CW.seq ?_ | refine CW.block ?_ | refine CW.skip ?_ | refine CW.exit ?_ | refine CW.condT rfl ?_ | refine CW.condF rfl ?_)
            refine CW.quiet mixedP (by kernel_rfl) hs ?_
            refine QL.val rfl (fun w hs => run_move) ?_
            refine QL.val rfl (fun w hs => run_move) ?_
            refine QL.val rfl (fun w hs => run_sub (c := ((k - 1 : Nat) : Int)) rfl rfl (by omega) (by omega)) ?_
            first | refine QL.val rfl (fun w hs => run_ixSlN Try.underlying22 ty48 rfl rfl (by omega)) ?_ | refine QL.val rfl (fun w hs => run_ixSl Try.underlying22 ty48 rfl rfl (by omega)) ?_
            refine QL.val rfl (fun w hs => run_field (o' := 0) Try.underlying48 rfl ty9 rfl rfl rfl) ?_
            refine QL.val rfl (fun w hs => run_load1 ty9 rfl ((hN (k - 1) (by omega) hs).cell (j := 0) rfl)) ?_
            refine QL.val rfl (fun w hs => run_move) ?_
            refine QL.val rfl (fun w hs => run_move) ?_
            first | refine QL.val rfl (fun w hs => run_ixSlN Try.underlying22 ty48 rfl rfl (by omega)) ?_ | refine QL.val rfl (fun w hs => run_ixSl Try.underlying22 ty48 rfl rfl (by omega)) ?_
            refine QL.val rfl (fun w hs => run_field (o' := 0) Try.underlying48 rfl ty9 rfl rfl rfl) ?_
            refine QL.val rfl (fun w hs => run_load1 ty9 rfl ((hN k hkl' hs).cell (j := 0) rfl)) ?_
            refine QL.val rfl (fun w hs => run_bE (run_strGe rfl rfl) (by rw [hlt])) ?_
            refine QL.nil (fun w hs => ?_)
            repeat (first | refine CW.seq ?_ | refine CW.block ?_ | refine CW.skip ?_ | refine CW.exit ?_ | refine CW.condT rfl ?_ | refine CW.condF rfl ?_)
            refine CW.reg ?_
            refine WL.val rfl (run_move) ?_
            refine WL.val rfl (run_add (c := ((k + 1 : Nat) : Int)) rfl rfl (by omega) (by omega)) ?_
            refine WL.val rfl (run_assign) ?_
            refine WL.nil ?_
            repeat (first | refine CW.seq ?_ | refine CW.block ?_ | refine CW.skip ?_ | refine CW.exit ?_)
            refine (show _ ∧ _ from ⟨rfl, _, ?_, k + 1, by omega, rfl, hs, rfl, rfl, trivial⟩)
            omega
          · repeat (first | refine CW.seq ?_ | refine CW.block ?_ | refine CW.skip ?_ | refine CW.exit ?_ | refine CW.condT rfl ?_ | refine CW.condF rfl ?_)
            refine CW.reg ?_
            refine WL.val rfl (run_assign) ?_
            refine WL.nil ?_
            repeat (first | refine CW.seq ?_ | refine CW.block ?_ | refine CW.skip ?_ | refine CW.exit ?_ | refine CW.condT rfl ?_ | refine CW.condF rfl ?_)
            refine CW.ret ?_
            refine fin_ret1 rfl ?_
            exact ⟨rfl, hs.clear⟩
end Go.Gx
