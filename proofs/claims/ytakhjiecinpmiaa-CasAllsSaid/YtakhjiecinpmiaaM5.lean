/- The document's Store: Used, room, Of, same, New. The document's Store: Raw, Whole, Stamp, Get, Limit. The document's Store: lay. The document's Store: lay, walked. The document's Store: Put, Plant, Limit. -/
import Derived.Test.YtakhjiecinpmiaaM4
/-! RS3 -/
namespace Go.Gx
open Go.Proofs
set_option linter.unusedVariables false
set_option linter.unusedSimpArgs false
set_option maxRecDepth 100000
attribute [local irreducible] shaL cutD frontL
section
variable {br : Nat} {s : AS} {D R Lv : List (Nat × Obj)} {w0 : World} {d y : List UInt8} {v : Value} {a : Option Addr} {c : Nat} {T : List RB}
theorem usedX_snoc (X : List Blb) (b : Blb) : usedX (X ++ [b]) = usedX X + (b.x.length + 32) := by simp [usedX]
theorem usedX_take_le (X : List Blb) (i : Nat) : usedX (X.take i) ≤ usedX X := by
  induction X generalizing i with
  | nil => simp
  | cons b X ih => cases i with
    | zero => exact Nat.zero_le _
    | succ i => rw [List.take_succ_cons, usedX_cons, usedX_cons]; have := ih i; omega
theorem rused_spec (o : ROpen br s D R w0 a c Lv T) (ok : s.Ok) : Calls Try.prog 53 #[.pointer (some ⟨br, 0, none⟩)] w0 (Ret0 (.int .i64 (usedX s.X : Nat)) w0) := by
  have hs : Step [] [] w0 w0 := Step.refl w0
  have hat : At w0 br 0 (rsC s.k s.cap s.last (.slice a s.X.length c) s.gets s.puts) := At.of_blk o.hb
  have hsmall := used_len s.X
  have huse := ok.used
  refine calls (n := 27) Try.func53 rfl rfl rfl ?_
  refine CW.seq ?_
  refine CW.reg ?_
  refine WL.val rfl (run_assign) ?_
  refine WL.nil ?_
  refine CW.seq ?_
  refine CW.reg ?_
  refine WL.val rfl (run_assign) ?_
  refine WL.nil ?_
  refine CW.seq <| CW.seq ?_
  refine CW.reg ?_
  refine WL.val rfl (run_assign) ?_
  refine WL.nil ?_
  refine CW.block ?_
  refine CW.loop (fun m f w' => ∃ i, i ≤ s.X.length ∧ m = s.X.length - i ∧ Step [] [] w0 w' ∧ Holds f [(0, .pointer (some ⟨br, 0, none⟩)), (3, .int .i64 (usedX (s.X.take i) : Nat)), (4, .int .i64 (i : Nat))]) (m := s.X.length) ?_ ?_
  · exact ⟨0, Nat.zero_le _, rfl, hs, rfl, rfl, rfl, trivial⟩
  · rintro m f w ⟨i, hi, rfl, hs, hf⟩
    have hobt := hf.chain
    obtain ⟨g, rfl⟩ := hobt
    have htk := usedX_take_le s.X i
    by_cases hlt : i < s.X.length
    · have hobt : ∃ b, s.X[i]? = some b := ⟨_, List.getElem?_eq_getElem hlt⟩
      obtain ⟨b, hb⟩ := hobt
      have hobt := o.row hb
      obtain ⟨bv, v, rfl, hv, hrow⟩ := hobt
      have hbl := ok.len b (List.mem_of_getElem? hb)
      have hbu := used_mem (List.mem_of_getElem? hb)
      have hobt := hv.form
      obtain ⟨va, vc, rfl⟩ := hobt
      have e : usedX (s.X.take (i + 1)) = usedX (s.X.take i) + b.x.length + 32 := by
        rw [List.take_add_one, hb, Option.toList_some, usedX_snoc]; omega
      have h32 : w0.cell? ⟨bv, 0 + i * 34 + 32, none⟩ = some (.slice va b.x.length vc) := hrow.cell (rbC_32 hbl)
      have hcell : ∀ {L : List (Nat × Obj)} {w : World}, Step [] L w0 w → w.cell? ⟨bv, 0 + i * 34 + 32, none⟩ = some (.slice va b.x.length vc) := fun {L w} h => (hrow.step h.clear (by simp)).cell (rbC_32 hbl)
      refine CW.seq <| CW.seq ?_
      refine CW.reg ?_
      refine WL.val rfl (run_move) ?_
      refine WL.val rfl (run_move) ?_
      refine WL.val rfl (run_nilCheck rfl) ?_
      refine WL.val rfl (run_field (o' := 3) Try.underlying70 rfl ty68 rfl rfl rfl) ?_
      refine WL.val rfl (run_load1 ty68 rfl ((hat.step hs.clear (by simp)).cell (j := 3) rfl)) ?_
      refine WL.val rfl (run_lenSl Try.underlying68 rfl) ?_
      refine WL.val rfl (run_bT (run_lss rfl rfl) (by omega)) ?_
      refine WL.nil ?_
      refine CW.cond rfl (fun h => ?_) (fun h => ?_)
      · repeat (first | refine CW.seq ?_ | refine CW.block ?_ | refine CW.skip ?_)
        refine CW.reg ?_
        refine WL.val rfl (run_move) ?_
        refine WL.val rfl (run_move) ?_
        refine WL.val rfl (run_nilCheck rfl) ?_
        refine WL.val rfl (run_field (o' := 3) Try.underlying70 rfl ty68 rfl rfl rfl) ?_
        refine WL.val rfl (run_load1 ty68 rfl ((hat.step hs.clear (by simp)).cell (j := 3) rfl)) ?_
        refine WL.val rfl (run_move) ?_
        refine WL.val rfl (run_ixSlN Try.underlying68 ty76 rfl rfl (by omega)) ?_
        refine WL.val rfl (run_field (o' := 32) Try.underlying76 rfl ty22 rfl rfl rfl) ?_
        refine WL.val rfl (run_load1 ty22 rfl (hcell hs)) ?_
        refine WL.val rfl (run_lenSl Try.underlying22 rfl) ?_
        refine WL.val rfl (run_add (c := ((usedX (s.X.take i) + b.x.length : Nat) : Int)) rfl rfl (by omega) (by omega)) ?_
        refine WL.val rfl (run_add (c := ((usedX (s.X.take (i + 1)) : Nat) : Int)) rfl rfl (by omega) (by omega)) ?_
        refine WL.val rfl (run_assign) ?_
        refine WL.nil ?_
        refine CW.reg ?_
        refine WL.val rfl (run_move) ?_
        refine WL.val rfl (run_add (c := ((i + 1 : Nat) : Int)) rfl rfl (by omega) (by omega)) ?_
        refine WL.val rfl (run_assign) ?_
        refine WL.nil ?_
        refine (show _ ∧ _ from ⟨rfl, _, ?_, i + 1, hlt, rfl, hs, rfl, rfl, rfl, trivial⟩)
        omega
      · cases h
    · obtain rfl : i = s.X.length := by omega
      have e : usedX (s.X.take s.X.length) = usedX s.X := by rw [List.take_length]
      refine CW.seq <| CW.seq ?_
      refine CW.reg ?_
      refine WL.val rfl (run_move) ?_
      refine WL.val rfl (run_move) ?_
      refine WL.val rfl (run_nilCheck rfl) ?_
      refine WL.val rfl (run_field (o' := 3) Try.underlying70 rfl ty68 rfl rfl rfl) ?_
      refine WL.val rfl (run_load1 ty68 rfl ((hat.step hs.clear (by simp)).cell (j := 3) rfl)) ?_
      refine WL.val rfl (run_lenSl Try.underlying68 rfl) ?_
      refine WL.val rfl (run_bF (run_lss rfl rfl) (by omega)) ?_
      refine WL.nil ?_
      refine CW.cond rfl (fun h => ?_) (fun h => ?_)
      · cases h
      · repeat (first | refine CW.seq ?_ | refine CW.exit ?_)
        refine CW.reg ?_
        refine WL.val rfl (run_move) ?_
        refine WL.val rfl (run_assign) ?_
        refine WL.nil ?_
        refine CW.ret ?_
        refine fin_ret1 rfl ?_
        exact ⟨congrArg (fun n : Nat => Ending.returned (.int .i64 (n : Int))) e, hs⟩
theorem room_spec (o : ROpen br s D R w0 a c Lv T) (ok : s.Ok) (hd : d.length = 32) {n : Nat} (hn : n < 1099511627776) : Calls Try.prog 82 #[.pointer (some ⟨br, 0, none⟩), .agg (u8s d).toArray, .int .i64 (n : Nat)] w0 (Ret0 (.bool (decide (usedX (delX d s.X) + (n + 32) ≤ s.cap))) w0) := by
  have hs : Step [] [] w0 w0 := Step.refl w0
  have hat : At w0 br 0 (rsC s.k s.cap s.last (.slice a s.X.length c) s.gets s.puts) := At.of_blk o.hb
  have hdl : (u8s d).length = 32 := by rw [u8s, List.length_map, hd]
  have huse := ok.used
  have hcap := ok.cap
  have hud := used_del ok.sorted d
  have hpos := fun {c : Blb} (h : findX d s.X = some c) => pos_some ok.sorted h
  have hpl := fun w (h : Step [] [] w0 w) => place_spec (d := d) (o.step h) ok hd
  have hus := fun w (h : Step [] [] w0 w) => rused_spec (o.step h) ok
  unfold AS.has at hpl
  cases hf : findX d s.X with
  | none =>
    rw [hf] at hpl hud
    simp only at hud
    refine calls (n := 40) Try.func82 rfl rfl rfl ?_
    refine CW.seq ?_
    refine CW.reg ?_
    refine WL.box (cs := u8s d) rfl rfl rfl hs (fun b4 w hs => ?_)
    refine WL.val rfl (run_assign) ?_
    refine WL.nil ?_
    refine CW.seq ?_
    refine CW.reg ?_
    refine WL.val rfl (run_move) ?_
    refine WL.val rfl (run_loadN ty27 rfl hdl hs.a0) ?_
    refine WL.enter rfl (run_call en80 rfl rfl) (hpl _ hs.clear) ?_
    rintro e w ⟨rfl, hq⟩
    refine ⟨_, rfl, ?_⟩
    replace hs := hs.callE hq
    refine WL.val rfl (run_move) ?_
    refine WL.val rfl (run_extract rfl rfl) ?_
    refine WL.val rfl (run_extract rfl rfl) ?_
    refine WL.val rfl (run_assign) ?_
    refine WL.val rfl (run_assign) ?_
    refine WL.nil ?_
    refine CW.seq ?_
    refine CW.reg ?_
    refine WL.val rfl (run_move) ?_
    refine WL.enter rfl (run_call en53 rfl rfl) (hus _ hs.clear) ?_
    rintro e w ⟨rfl, hq⟩
    refine ⟨_, rfl, ?_⟩
    replace hs := hs.callE hq
    refine WL.val rfl (run_move) ?_
    refine WL.val rfl (run_add (c := ((usedX s.X + n : Nat) : Int)) rfl rfl (by omega) (by omega)) ?_
    refine WL.val rfl (run_add (c := ((usedX s.X + n + 32 : Nat) : Int)) rfl rfl (by omega) (by omega)) ?_
    refine WL.val rfl (run_assign) ?_
    refine WL.nil ?_
    refine CW.seq <| CW.seq ?_
    refine CW.reg ?_
    refine WL.val rfl (run_move) ?_
    refine WL.nil ?_
    refine CW.cond rfl (fun h => ?_) (fun h => ?_)
    · cases h
    have e : decide (((usedX s.X + n + 32 : Nat) : Int) ≤ (s.cap : Nat)) = decide (usedX (delX d s.X) + (n + 32) ≤ s.cap) := decide_eq_decide.2 (by omega)
    repeat (first | refine CW.seq ?_ | refine CW.skip ?_)
    refine CW.reg ?_
    refine WL.val rfl (run_move) ?_
    refine WL.val rfl (run_move) ?_
    refine WL.val rfl (run_nilCheck rfl) ?_
    refine WL.val rfl (run_field (o' := 1) Try.underlying70 rfl ty3 rfl rfl rfl) ?_
    refine WL.val rfl (run_load1 ty3 rfl ((hat.step hs.clear (by simp)).cell (j := 1) rfl)) ?_
    refine WL.val rfl (run_leq rfl rfl) ?_
    refine WL.val rfl (run_assign) ?_
    refine WL.nil ?_
    refine CW.ret ?_
    refine fin_ret1 rfl ?_
    exact ⟨congrArg (fun b => Ending.returned (.bool b)) e, hs.clear⟩
  | some b =>
    rw [hf] at hpl hud
    simp only at hud
    have hobt := hpos hf
    obtain ⟨hb, hbd⟩ := hobt
    have hobt := o.row hb
    obtain ⟨bv, v, rfl, hv, hrow⟩ := hobt
    have hlt := (List.getElem?_eq_some_iff.1 hb).1
    have hbl := ok.len b (List.mem_of_getElem? hb)
    have hobt := hv.form
    obtain ⟨va, vc, rfl⟩ := hobt
    have hcell : ∀ {L : List (Nat × Obj)} {w : World}, Step [] L w0 w → w.cell? ⟨bv, 0 + posX d s.X * 34 + 32, none⟩ = some (.slice va b.x.length vc) := fun {L w} h => (hrow.step h.clear (by simp)).cell (rbC_32 hbl)
    refine calls (n := 40) Try.func82 rfl rfl rfl ?_
    refine CW.seq ?_
    refine CW.reg ?_
    refine WL.box (cs := u8s d) rfl rfl rfl hs (fun b4 w hs => ?_)
    refine WL.val rfl (run_assign) ?_
    refine WL.nil ?_
    refine CW.seq ?_
    refine CW.reg ?_
    refine WL.val rfl (run_move) ?_
    refine WL.val rfl (run_loadN ty27 rfl hdl hs.a0) ?_
    refine WL.enter rfl (run_call en80 rfl rfl) (hpl _ hs.clear) ?_
    rintro e w ⟨rfl, hq⟩
    refine ⟨_, rfl, ?_⟩
    replace hs := hs.callE hq
    refine WL.val rfl (run_move) ?_
    refine WL.val rfl (run_extract rfl rfl) ?_
    refine WL.val rfl (run_extract rfl rfl) ?_
    refine WL.val rfl (run_assign) ?_
    refine WL.val rfl (run_assign) ?_
    refine WL.nil ?_
    refine CW.seq ?_
    refine CW.reg ?_
    refine WL.val rfl (run_move) ?_
    refine WL.enter rfl (run_call en53 rfl rfl) (hus _ hs.clear) ?_
    rintro e w ⟨rfl, hq⟩
    refine ⟨_, rfl, ?_⟩
    replace hs := hs.callE hq
    refine WL.val rfl (run_move) ?_
    refine WL.val rfl (run_add (c := ((usedX s.X + n : Nat) : Int)) rfl rfl (by omega) (by omega)) ?_
    refine WL.val rfl (run_add (c := ((usedX s.X + n + 32 : Nat) : Int)) rfl rfl (by omega) (by omega)) ?_
    refine WL.val rfl (run_assign) ?_
    refine WL.nil ?_
    refine CW.seq <| CW.seq ?_
    refine CW.reg ?_
    refine WL.val rfl (run_move) ?_
    refine WL.nil ?_
    refine CW.cond rfl (fun h => ?_) (fun h => ?_)
    · skip
      refine CW.reg ?_
      refine WL.val rfl (run_move) ?_
      refine WL.val rfl (run_move) ?_
      refine WL.val rfl (run_nilCheck rfl) ?_
      refine WL.val rfl (run_field (o' := 3) Try.underlying70 rfl ty68 rfl rfl rfl) ?_
      refine WL.val rfl (run_load1 ty68 rfl ((hat.step hs.clear (by simp)).cell (j := 3) rfl)) ?_
      refine WL.val rfl (run_move) ?_
      refine WL.val rfl (run_ixSlN Try.underlying68 ty76 rfl rfl (by omega)) ?_
      refine WL.val rfl (run_field (o' := 32) Try.underlying76 rfl ty22 rfl rfl rfl) ?_
      refine WL.val rfl (run_load1 ty22 rfl (hcell hs)) ?_
      refine WL.val rfl (run_lenSl Try.underlying22 rfl) ?_
      refine WL.val rfl (run_sub (c := ((usedX s.X + n + 32 - b.x.length : Nat) : Int)) rfl rfl (by omega) (by omega)) ?_
      refine WL.val rfl (run_sub (c := ((usedX s.X + n + 32 - b.x.length - 32 : Nat) : Int)) rfl rfl (by omega) (by omega)) ?_
      refine WL.val rfl (run_assign) ?_
      refine WL.nil ?_
      have e : decide (((usedX s.X + n + 32 - b.x.length - 32 : Nat) : Int) ≤ (s.cap : Nat)) = decide (usedX (delX d s.X) + (n + 32) ≤ s.cap) := decide_eq_decide.2 (by omega)
      refine CW.seq ?_
      refine CW.reg ?_
      refine WL.val rfl (run_move) ?_
      refine WL.val rfl (run_move) ?_
      refine WL.val rfl (run_nilCheck rfl) ?_
      refine WL.val rfl (run_field (o' := 1) Try.underlying70 rfl ty3 rfl rfl rfl) ?_
      refine WL.val rfl (run_load1 ty3 rfl ((hat.step hs.clear (by simp)).cell (j := 1) rfl)) ?_
      refine WL.val rfl (run_leq rfl rfl) ?_
      refine WL.val rfl (run_assign) ?_
      refine WL.nil ?_
      refine CW.ret ?_
      refine fin_ret1 rfl ?_
      exact ⟨congrArg (fun b => Ending.returned (.bool b)) e, hs.clear⟩
    · cases h
theorem ofR_spec {k : Nat} (w0 : World) (hv : Sl w0 1 v y.length (u8s y)) (hsz : y.length < 1099511627776) (hk1 : 1 ≤ k) (hk : k ≤ 32) : Calls Try.prog 13 #[.int .i64 (k : Nat), v] w0 (Ret0 (.agg (u8s (frontL y k)).toArray) w0) := by
  have hs : Step [] [] w0 w0 := Step.refl w0
  have hl2 : (u8s (frontL y k)).length = 32 := by rw [u8s, List.length_map, frontL_len hk]
  refine calls (n := 10) Try.func13 rfl rfl rfl ?_
  refine CW.seq ?_
  refine CW.reg ?_
  refine WL.alloc ty27 rfl hs (fun b4 w hs => ?_)
  refine WL.nil ?_
  refine CW.seq ?_
  refine CW.reg ?_
  refine WL.val rfl (run_move) ?_
  refine WL.val rfl (run_move) ?_
  refine WL.enter rfl (run_call en40 rfl rfl) (refFront_spec _ (hv.step0 hs.clear) hsz hk1 hk) ?_
  rintro e w ⟨rfl, hq⟩
  refine ⟨_, rfl, ?_⟩
  replace hs := hs.callE hq
  refine WL.alloc ty87 rfl hs (fun b5 w hs => ?_)
  refine WL.storeAll ty87 rfl rfl ((hl2)) (Cells1.u8s _) hs (by first | rfl | assumption) (fun w hs => ?_)
  refine WL.nil ?_
  refine CW.seq ?_
  refine CW.reg ?_
  refine WL.val rfl (run_loadN ty87 rfl hl2 hs.a0) ?_
  refine WL.storeAll ty27 rfl rfl (hl2) (Cells1.u8s _) (hs.swap) rfl (fun w hs => ?_)
  refine WL.nil ?_
  refine CW.ret ?_
  refine fin_cell1 rfl rfl (run_loadVarN ty27 (by first | rfl | assumption | (simp; done)) hs.a0) ?_
  exact ⟨rfl, hs.clear⟩
theorem sameR_spec {u v : Value} {x y : List UInt8} (w0 : World) (hu : Sl w0 1 u x.length (u8s x)) (hv : Sl w0 1 v y.length (u8s y)) : Calls Try.prog 81 #[u, v] w0 (Ret0 (.bool (decide (x = y))) w0) := by
  have hs : Step [] [] w0 w0 := Step.refl w0
  refine calls (n := 10) Try.func81 rfl rfl rfl ?_
  refine CW.seq ?_
  refine CW.reg ?_
  refine WL.val rfl (run_assign) ?_
  refine WL.nil ?_
  refine CW.seq ?_
  refine CW.reg ?_
  refine WL.val rfl (run_move) ?_
  refine WL.val rfl (run_toString Try.underlying22 Try.underlying9 Try.underlying5 rfl (hu.step0 hs)) ?_
  refine WL.val rfl (run_move) ?_
  refine WL.val rfl (run_toString Try.underlying22 Try.underlying9 Try.underlying5 rfl (hv.step0 hs)) ?_
  refine WL.val rfl (run_strEq rfl rfl) ?_
  refine WL.val rfl (run_assign) ?_
  refine WL.nil ?_
  refine CW.ret ?_
  refine fin_ret1 rfl ?_
  exact ⟨rfl, hs⟩
theorem rnew_width {k c : Int} (hk : k < 1 ∨ 32 < k) (w : World) : Calls Try.prog 49 #[.int .i64 k, .int .i64 c] w (Ret0 (.tuple #[.pointer none, .int .i64 3]) w) := by
  have hs : Step [] [] w w := Step.refl w
  by_cases h1 : k < 1
  · refine calls (n := 22) Try.func49 rfl rfl rfl ?_
    refine CW.seq ?_
    refine CW.reg ?_
    refine WL.val rfl (run_assign) ?_
    refine WL.val rfl (run_assign) ?_
    refine WL.nil ?_
    refine CW.seq <| CW.seq ?_
    refine CW.reg ?_
    refine WL.val rfl (run_move) ?_
    refine WL.val rfl (run_bT (run_lss rfl rfl) (by exact h1)) ?_
    refine WL.val rfl (run_move) ?_
    refine WL.no rfl rfl rfl (.inl rfl) ?_
    refine WL.no rfl rfl rfl (.inl rfl) ?_
    refine WL.val rfl (run_pickT rfl) ?_
    refine WL.nil ?_
    refine CW.cond rfl (fun h => ?_) (fun h => ?_)
    · refine CW.seq ?_
      refine CW.reg ?_
      refine WL.val rfl (run_assign) ?_
      refine WL.val rfl (run_assign) ?_
      refine WL.nil ?_
      refine CW.ret ?_
      refine fin_ret2 rfl ?_
      exact ⟨rfl, hs.clear⟩
    · cases h
  · have h2 : k > 32 := by omega
    refine calls (n := 22) Try.func49 rfl rfl rfl ?_
    refine CW.seq ?_
    refine CW.reg ?_
    refine WL.val rfl (run_assign) ?_
    refine WL.val rfl (run_assign) ?_
    refine WL.nil ?_
    refine CW.seq <| CW.seq ?_
    refine CW.reg ?_
    refine WL.val rfl (run_move) ?_
    refine WL.val rfl (run_bF (run_lss rfl rfl) (by exact h1)) ?_
    refine WL.val rfl (run_move) ?_
    refine WL.yes rfl rfl rfl ?_; refine WL.val rfl (run_move) ?_
    refine WL.yes rfl rfl rfl ?_
    refine WL.val rfl (run_bT (run_gtr rfl rfl) (by exact h2)) ?_
    refine WL.val rfl (run_pickF rfl) ?_
    refine WL.nil ?_
    refine CW.cond rfl (fun h => ?_) (fun h => ?_)
    · refine CW.seq ?_
      refine CW.reg ?_
      refine WL.val rfl (run_assign) ?_
      refine WL.val rfl (run_assign) ?_
      refine WL.nil ?_
      refine CW.ret ?_
      refine fin_ret2 rfl ?_
      exact ⟨rfl, hs.clear⟩
    · cases h
theorem rnew_arg {k c : Int} (hk1 : 1 ≤ k) (hk : k ≤ 32) (hc : ¬ (0 ≤ c ∧ c ≤ 67108864)) (w : World) : Calls Try.prog 49 #[.int .i64 k, .int .i64 c] w (Ret0 (.tuple #[.pointer none, .int .i64 1]) w) := by
  have hs : Step [] [] w w := Step.refl w
  by_cases h1 : c < 0
  · refine calls (n := 22) Try.func49 rfl rfl rfl ?_
    refine CW.seq ?_
    refine CW.reg ?_
    refine WL.val rfl (run_assign) ?_
    refine WL.val rfl (run_assign) ?_
    refine WL.nil ?_
    refine CW.seq <| CW.seq ?_
    refine CW.reg ?_
    refine WL.val rfl (run_move) ?_
    refine WL.val rfl (run_bF (run_lss rfl rfl) (by omega)) ?_
    refine WL.val rfl (run_move) ?_
    refine WL.yes rfl rfl rfl ?_; refine WL.val rfl (run_move) ?_
    refine WL.yes rfl rfl rfl ?_
    refine WL.val rfl (run_bF (run_gtr rfl rfl) (by omega)) ?_
    refine WL.val rfl (run_pickF rfl) ?_
    refine WL.nil ?_
    refine CW.cond rfl (fun h => ?_) (fun h => ?_)
    · cases h
    repeat (first | refine CW.seq ?_ | refine CW.skip ?_)
    refine CW.reg ?_
    refine WL.val rfl (run_move) ?_
    refine WL.val rfl (run_bT (run_lss rfl rfl) (by exact h1)) ?_
    refine WL.val rfl (run_move) ?_
    refine WL.no rfl rfl rfl (.inl rfl) ?_
    refine WL.no rfl rfl rfl (.inl rfl) ?_
    refine WL.val rfl (run_pickT rfl) ?_
    refine WL.nil ?_
    refine CW.cond rfl (fun h => ?_) (fun h => ?_)
    · refine CW.seq ?_
      refine CW.reg ?_
      refine WL.val rfl (run_assign) ?_
      refine WL.val rfl (run_assign) ?_
      refine WL.nil ?_
      refine CW.ret ?_
      refine fin_ret2 rfl ?_
      exact ⟨rfl, hs.clear⟩
    · cases h
  · have h2 : c > 67108864 := by omega
    refine calls (n := 22) Try.func49 rfl rfl rfl ?_
    refine CW.seq ?_
    refine CW.reg ?_
    refine WL.val rfl (run_assign) ?_
    refine WL.val rfl (run_assign) ?_
    refine WL.nil ?_
    refine CW.seq <| CW.seq ?_
    refine CW.reg ?_
    refine WL.val rfl (run_move) ?_
    refine WL.val rfl (run_bF (run_lss rfl rfl) (by omega)) ?_
    refine WL.val rfl (run_move) ?_
    refine WL.yes rfl rfl rfl ?_; refine WL.val rfl (run_move) ?_
    refine WL.yes rfl rfl rfl ?_
    refine WL.val rfl (run_bF (run_gtr rfl rfl) (by omega)) ?_
    refine WL.val rfl (run_pickF rfl) ?_
    refine WL.nil ?_
    refine CW.cond rfl (fun h => ?_) (fun h => ?_)
    · cases h
    repeat (first | refine CW.seq ?_ | refine CW.skip ?_)
    refine CW.reg ?_
    refine WL.val rfl (run_move) ?_
    refine WL.val rfl (run_bF (run_lss rfl rfl) (by exact h1)) ?_
    refine WL.val rfl (run_move) ?_
    refine WL.yes rfl rfl rfl ?_; refine WL.val rfl (run_move) ?_
    refine WL.yes rfl rfl rfl ?_
    refine WL.val rfl (run_bT (run_gtr rfl rfl) (by exact h2)) ?_
    refine WL.val rfl (run_pickF rfl) ?_
    refine WL.nil ?_
    refine CW.cond rfl (fun h => ?_) (fun h => ?_)
    · refine CW.seq ?_
      refine CW.reg ?_
      refine WL.val rfl (run_assign) ?_
      refine WL.val rfl (run_assign) ?_
      refine WL.nil ?_
      refine CW.ret ?_
      refine fin_ret2 rfl ?_
      exact ⟨rfl, hs.clear⟩
    · cases h
theorem bld_rstore (k c : Int) (w : World) : (Instr.build 70 #[(0, .int .i64 k), (1, .int .i64 c)]).run Try.prog w = .ok (.agg #[.int .i64 k, .int .i64 c, .int .i64 0, .slice none 0 0, .int .i64 0, .int .i64 0]) w := by kernel_rfl
theorem rnew_abs {k c : Nat} (hk1 : 1 ≤ k) (hk : k ≤ 32) (hc : c ≤ 67108864) (w : World) : Calls Try.prog 49 #[.int .i64 (k : Nat), .int .i64 (c : Nat)] w fun e w' => ∃ br R, e = .returned (.tuple #[.pointer (some ⟨br, 0, none⟩), .int .i64 0]) ∧ RRep br (newS k c) [] R ∧ Step [] R w w' := by
  have hs : Step [] [] w w := Step.refl w
  refine calls (n := 22) Try.func49 rfl rfl rfl ?_
  refine CW.seq ?_
  refine CW.reg ?_
  refine WL.val rfl (run_assign) ?_
  refine WL.val rfl (run_assign) ?_
  refine WL.nil ?_
  refine CW.seq <| CW.seq ?_
  refine CW.reg ?_
  refine WL.val rfl (run_move) ?_
  refine WL.val rfl (run_bF (run_lss rfl rfl) (by omega)) ?_
  refine WL.val rfl (run_move) ?_
  refine WL.yes rfl rfl rfl ?_; refine WL.val rfl (run_move) ?_
  refine WL.yes rfl rfl rfl ?_
  refine WL.val rfl (run_bF (run_gtr rfl rfl) (by omega)) ?_
  refine WL.val rfl (run_pickF rfl) ?_
  refine WL.nil ?_
  refine CW.cond rfl (fun h => ?_) (fun h => ?_)
  · cases h
  repeat (first | refine CW.seq ?_ | refine CW.skip ?_)
  refine CW.reg ?_
  refine WL.val rfl (run_move) ?_
  refine WL.val rfl (run_bF (run_lss rfl rfl) (by omega)) ?_
  refine WL.val rfl (run_move) ?_
  refine WL.yes rfl rfl rfl ?_; refine WL.val rfl (run_move) ?_
  refine WL.yes rfl rfl rfl ?_
  refine WL.val rfl (run_bF (run_gtr rfl rfl) (by omega)) ?_
  refine WL.val rfl (run_pickF rfl) ?_
  refine WL.nil ?_
  refine CW.cond rfl (fun h => ?_) (fun h => ?_)
  · cases h
  repeat (first | refine CW.seq ?_ | refine CW.skip ?_)
  refine CW.reg ?_
  refine WL.val rfl (run_move) ?_
  refine WL.val rfl (run_move) ?_
  refine WL.val rfl (run_build rfl ((bld_rstore _ _ _))) ?_
  refine WL.box (cs := rsC k c 0 (.slice none 0 0) 0 0) rfl rfl rfl hs (fun b21 w hs => ?_)
  refine WL.val rfl (run_assign) ?_
  refine WL.val rfl (run_assign) ?_
  refine WL.nil ?_
  refine CW.ret ?_
  refine fin_ret2 rfl ?_
  exact ⟨b21, _, rfl, ⟨_, [], [], rfl, OwnSl.nil _ _, .nil⟩, hs⟩
end
end Go.Gx
/-! RS4 -/
namespace Go.Gx
open Go.Proofs
set_option linter.unusedVariables false
set_option linter.unusedSimpArgs false
set_option maxRecDepth 100000
attribute [local irreducible] shaL cutD frontL
theorem run_neDig {f : Slots} {w : World} {dd : Option Tmp} {ty : TypeId} {pos : String} {af : Array Edge} {x y : Operand} {T' : TypeId} {a b : List UInt8} (ha : a.length = 32) (hb : b.length = 32) (hx : ev f x = .agg (u8s a).toArray) (hy : ev f y = .agg (u8s b).toArray) :
    (execOp (ev f) ⟨dd, .binOp .neq 27 x y T', ty, pos, af, none⟩).run Try.prog w = .ok (.value (.bool (decide (¬ a = b)))) w :=
  run_neqAgg u8l_iff dig_key (dig_formed ha) (dig_formed hb) dig_guard hx hy (dig_lits ha) (dig_lits hb)
section
variable {br : Nat} {s : AS} {D R Lv : List (Nat × Obj)} {w0 : World} {d y : List UInt8} {v : Value} {a : Option Addr} {c : Nat} {T : List RB}
theorem rraw_spec (o : ROpen br s D R w0 a c Lv T) (ok : s.Ok) (hd : d.length = 32) : Calls Try.prog 69 #[.pointer (some ⟨br, 0, none⟩), .agg (u8s d).toArray] w0 fun e w' => ∃ v' Lv', e = .returned (.tuple #[v', .bool (s.has d)]) ∧ OwnSl 5 1 v' (s.raw d).length (u8s (s.raw d)) Lv' ∧ Step [] Lv' w0 w' := by
  have hs : Step [] [] w0 w0 := Step.refl w0
  have hat : At w0 br 0 (rsC s.k s.cap s.last (.slice a s.X.length c) s.gets s.puts) := At.of_blk o.hb
  have hdl : (u8s d).length = 32 := by rw [u8s, List.length_map, hd]
  have huse := ok.used
  have hpos := fun {c : Blb} (h : findX d s.X = some c) => pos_some ok.sorted h
  have hpl := fun w (h : Step [] [] w0 w) => place_spec (d := d) (o.step h) ok hd
  unfold AS.has AS.raw
  unfold AS.has at hpl
  cases hf : findX d s.X with
  | none =>
    rw [hf] at hpl
    refine calls (n := 26) Try.func69 rfl rfl rfl ?_
    refine CW.seq ?_
    refine CW.reg ?_
    refine WL.box (cs := u8s d) rfl rfl rfl hs (fun b3 w hs => ?_)
    refine WL.val rfl (run_assign) ?_
    refine WL.val rfl (run_assign) ?_
    refine WL.nil ?_
    refine CW.seq ?_
    refine CW.reg ?_
    refine WL.val rfl (run_move) ?_
    refine WL.val rfl (run_loadN ty27 rfl hdl hs.a0) ?_
    refine WL.enter rfl (run_call en80 rfl rfl) (hpl _ hs.clear) ?_
    rintro e w ⟨rfl, hq⟩
    refine ⟨_, rfl, ?_⟩
    replace hs := hs.callE hq
    refine WL.val rfl (run_move) ?_
    refine WL.val rfl (run_extract rfl rfl) ?_
    refine WL.val rfl (run_extract rfl rfl) ?_
    refine WL.val rfl (run_assign) ?_
    refine WL.val rfl (run_assign) ?_
    refine WL.nil ?_
    refine CW.seq <| CW.seq ?_
    refine CW.reg ?_
    refine WL.val rfl (run_move) ?_
    refine WL.val rfl (run_not rfl) ?_
    refine WL.nil ?_
    refine CW.cond rfl (fun h => ?_) (fun h => ?_)
    · refine CW.seq ?_
      refine CW.reg ?_
      refine WL.val rfl (run_assign) ?_
      refine WL.val rfl (run_assign) ?_
      refine WL.nil ?_
      refine CW.ret ?_
      refine fin_ret2 rfl ?_
      exact ⟨_, [], rfl, OwnSl.nil _ _, hs.clear⟩
    · cases h
  | some b =>
    rw [hf] at hpl
    have hobt := hpos hf
    obtain ⟨hb, hbd⟩ := hobt
    have hobt := o.row hb
    obtain ⟨bv, v, rfl, hv, hrow⟩ := hobt
    have hlt := (List.getElem?_eq_some_iff.1 hb).1
    have hbl := ok.len b (List.mem_of_getElem? hb)
    have hbu := used_mem (List.mem_of_getElem? hb)
    have hvs := hv.sl o.dat
    have hobt := hv.form
    obtain ⟨va, vc, rfl⟩ := hobt
    have hcell : ∀ {L : List (Nat × Obj)} {w : World}, Step [] L w0 w → w.cell? ⟨bv, 0 + posX d s.X * 34 + 32, none⟩ = some (.slice va b.x.length vc) := fun {L w} h => (hrow.step h.clear (by simp)).cell (rbC_32 hbl)
    refine calls (n := 26) Try.func69 rfl rfl rfl ?_
    refine CW.seq ?_
    refine CW.reg ?_
    refine WL.box (cs := u8s d) rfl rfl rfl hs (fun b3 w hs => ?_)
    refine WL.val rfl (run_assign) ?_
    refine WL.val rfl (run_assign) ?_
    refine WL.nil ?_
    refine CW.seq ?_
    refine CW.reg ?_
    refine WL.val rfl (run_move) ?_
    refine WL.val rfl (run_loadN ty27 rfl hdl hs.a0) ?_
    refine WL.enter rfl (run_call en80 rfl rfl) (hpl _ hs.clear) ?_
    rintro e w ⟨rfl, hq⟩
    refine ⟨_, rfl, ?_⟩
    replace hs := hs.callE hq
    refine WL.val rfl (run_move) ?_
    refine WL.val rfl (run_extract rfl rfl) ?_
    refine WL.val rfl (run_extract rfl rfl) ?_
    refine WL.val rfl (run_assign) ?_
    refine WL.val rfl (run_assign) ?_
    refine WL.nil ?_
    refine CW.seq <| CW.seq ?_
    refine CW.reg ?_
    refine WL.val rfl (run_move) ?_
    refine WL.val rfl (run_not rfl) ?_
    refine WL.nil ?_
    refine CW.cond rfl (fun h => ?_) (fun h => ?_)
    · cases h
    repeat (first | refine CW.seq ?_ | refine CW.skip ?_)
    refine CW.reg ?_
    refine WL.buildSlice (cs := []) Try.underlying22 ty5 rfl (by decide) rfl (by rfl) rfl hs (fun b16 w hs => ?_)
    have ho : OwnSl 5 1 (.slice (some ⟨b16, 0, none⟩) 0 0) 0 [] [(b16, blk 5 [])] := OwnSl.mk rfl
    refine WL.val rfl (run_move) ?_
    refine WL.val rfl (run_nilCheck rfl) ?_
    refine WL.val rfl (run_field (o' := 3) Try.underlying70 rfl ty68 rfl rfl rfl) ?_
    refine WL.val rfl (run_load1 ty68 rfl ((hat.step hs.clear (by simp)).cell (j := 3) rfl)) ?_
    refine WL.val rfl (run_move) ?_
    refine WL.val rfl (run_ixSlN Try.underlying68 ty76 rfl rfl (by omega)) ?_
    refine WL.val rfl (run_field (o' := 32) Try.underlying76 rfl ty22 rfl rfl rfl) ?_
    refine WL.val rfl (run_load1 ty22 rfl (hcell hs)) ?_
    refine WL.append Try.underlying22 Try.underlying22 ty5 rfl (by decide) rfl rfl (ho) (hs) (hvs.step0 hs.clear) (Cells1.u8s _) (by first | omega | (simp only [List.length_append, List.length_cons, List.length_nil]; omega)) rfl (fun v25 Lv25 w hv25 hs => ?_)
    refine WL.val rfl (run_assign) ?_
    refine WL.val rfl (run_assign) ?_
    refine WL.nil ?_
    refine CW.ret ?_
    refine fin_ret2 rfl ?_
    have e : 0 + b.x.length = b.x.length := Nat.zero_add _
    rw [e, List.nil_append] at hv25
    exact ⟨v25, Lv25, rfl, hv25, hs.dropR⟩
theorem rwhole_spec (o : ROpen br s D R w0 a c Lv T) (ok : s.Ok) (hd : d.length = 32) : Calls Try.prog 70 #[.pointer (some ⟨br, 0, none⟩), .agg (u8s d).toArray] w0 (Ret0 (.bool (s.whole d)) w0) := by
  have hs : Step [] [] w0 w0 := Step.refl w0
  have hat : At w0 br 0 (rsC s.k s.cap s.last (.slice a s.X.length c) s.gets s.puts) := At.of_blk o.hb
  have hdl : (u8s d).length = 32 := by rw [u8s, List.length_map, hd]
  have huse := ok.used
  have hraw := fun w (h : Step [] [] w0 w) => rraw_spec (d := d) (o.step h) ok hd
  unfold AS.has AS.raw at hraw
  unfold AS.whole
  cases hf : findX d s.X with
  | none =>
    rw [hf] at hraw
    refine calls (n := 24) Try.func70 rfl rfl rfl ?_
    refine CW.seq ?_
    refine CW.reg ?_
    refine WL.box (cs := u8s d) rfl rfl rfl hs (fun b3 w hs => ?_)
    refine WL.val rfl (run_assign) ?_
    refine WL.nil ?_
    refine CW.seq ?_
    refine CW.reg ?_
    refine WL.val rfl (run_move) ?_
    refine WL.val rfl (run_loadN ty27 rfl hdl hs.a0) ?_
    refine WL.enter rfl (run_call en69 rfl rfl) (hraw _ hs.clear) ?_
    rintro e w ⟨v', Lv', rfl, hu', hq⟩
    refine ⟨_, rfl, ?_⟩
    replace hs := Step.append_comm (L2 := [_]) (Step.call0 hs hq)
    refine WL.val rfl (run_move) ?_
    refine WL.val rfl (run_extract rfl rfl) ?_
    refine WL.val rfl (run_extract rfl rfl) ?_
    refine WL.val rfl (run_assign) ?_
    refine WL.val rfl (run_assign) ?_
    refine WL.nil ?_
    refine CW.seq ?_
    refine CW.quiet mixedP (by kernel_rfl) hs ?_
    refine QL.val rfl (fun w hs => run_move) ?_
    refine QL.val rfl (fun w hs => run_move) ?_
    refine QL.no rfl rfl rfl (.inl rfl) ?_
    refine QL.no rfl rfl rfl (.inl rfl) ?_
    refine QL.no rfl rfl rfl (.inl rfl) ?_
    refine QL.no rfl rfl rfl (.inl rfl) ?_
    refine QL.no rfl rfl rfl (.inl rfl) ?_
    refine QL.no rfl rfl rfl (.inl rfl) ?_
    refine QL.no rfl rfl rfl (.inl rfl) ?_
    refine QL.no rfl rfl rfl (.inl rfl) ?_
    refine QL.val rfl (fun w hs => run_pickF rfl) ?_
    refine QL.val rfl (fun w hs => run_assign) ?_
    refine QL.nil (fun w hs => ?_)
    refine CW.ret ?_
    refine fin_ret1 rfl ?_
    exact ⟨rfl, hs.clear⟩
  | some b =>
    rw [hf] at hraw
    have hbu := used_mem (findX_some hf).1
    have hfl : (frontL b.x s.k).length = 32 := frontL_len ok.k2
    simp only at hraw
    refine calls (n := 24) Try.func70 rfl rfl rfl ?_
    refine CW.seq ?_
    refine CW.reg ?_
    refine WL.box (cs := u8s d) rfl rfl rfl hs (fun b3 w hs => ?_)
    refine WL.val rfl (run_assign) ?_
    refine WL.nil ?_
    refine CW.seq ?_
    refine CW.reg ?_
    refine WL.val rfl (run_move) ?_
    refine WL.val rfl (run_loadN ty27 rfl hdl hs.a0) ?_
    refine WL.enter rfl (run_call en69 rfl rfl) (hraw _ hs.clear) ?_
    rintro e w ⟨v', Lv', rfl, hu', hq⟩
    refine ⟨_, rfl, ?_⟩
    replace hs := Step.call0 hs hq
    refine WL.val rfl (run_move) ?_
    refine WL.val rfl (run_extract rfl rfl) ?_
    refine WL.val rfl (run_extract rfl rfl) ?_
    refine WL.val rfl (run_assign) ?_
    refine WL.val rfl (run_assign) ?_
    refine WL.nil ?_
    have hk := ok.k1
    refine CW.seq ?_
    refine CW.quiet mixedP (by kernel_rfl) hs ?_
    refine QL.val rfl (fun w hs => run_move) ?_
    refine QL.val rfl (fun w hs => run_move) ?_
    refine QL.yes rfl rfl rfl ?_; refine QL.val rfl (fun w hs => run_move) ?_
    refine QL.yes rfl rfl rfl ?_; refine QL.val rfl (fun w hs => run_nilCheck rfl) ?_
    refine QL.yes rfl rfl rfl ?_; refine QL.val rfl (fun w hs => run_field (o' := 0) Try.underlying70 rfl ty3 rfl rfl rfl) ?_
    refine QL.yes rfl rfl rfl ?_
    refine QL.val rfl (fun w hs => run_load1 ty3 rfl ((hat.step hs.clear (by simp)).cell (j := 0) rfl)) ?_
    refine QL.yes rfl rfl rfl ?_; refine QL.val rfl (fun w hs => run_move) ?_
    refine QL.yes rfl rfl rfl ?_
    refine QL.enter rfl (fun w => run_call en13 rfl rfl) (fun w hs => ofR_spec _ (hu'.sl hs) (by omega) ok.k1 ok.k2) ?_
    refine QL.yes rfl rfl rfl ?_
    refine QL.val rfl (fun w hs => run_loadN ty27 rfl hdl (hs.dropL (L1 := Lv')).a0) ?_
    refine QL.yes rfl rfl rfl ?_
    refine QL.val rfl (fun w hs => run_eqDig hfl hd rfl rfl) ?_
    refine QL.val rfl (fun w hs => run_pickT rfl) ?_
    refine QL.val rfl (fun w hs => run_assign) ?_
    refine QL.nil (fun w hs => ?_)
    refine CW.ret ?_
    refine fin_ret1 rfl ?_
    exact ⟨rfl, hs.clear⟩
theorem rstamp_spec (o : ROpen br s D R w0 a c Lv T) (ok : s.Ok) (hd : d.length = 32) : Calls Try.prog 71 #[.pointer (some ⟨br, 0, none⟩), .agg (u8s d).toArray] w0 (Ret0 (.int .i64 (s.stamp d : Nat)) w0) := by
  have hs : Step [] [] w0 w0 := Step.refl w0
  have hat : At w0 br 0 (rsC s.k s.cap s.last (.slice a s.X.length c) s.gets s.puts) := At.of_blk o.hb
  have hdl : (u8s d).length = 32 := by rw [u8s, List.length_map, hd]
  have hpos := fun {c : Blb} (h : findX d s.X = some c) => pos_some ok.sorted h
  have hpl := fun w (h : Step [] [] w0 w) => place_spec (d := d) (o.step h) ok hd
  unfold AS.stamp
  unfold AS.has at hpl
  cases hf : findX d s.X with
  | none =>
    rw [hf] at hpl
    refine calls (n := 23) Try.func71 rfl rfl rfl ?_
    refine CW.seq ?_
    refine CW.reg ?_
    refine WL.box (cs := u8s d) rfl rfl rfl hs (fun b3 w hs => ?_)
    refine WL.val rfl (run_assign) ?_
    refine WL.nil ?_
    refine CW.seq ?_
    refine CW.reg ?_
    refine WL.val rfl (run_move) ?_
    refine WL.val rfl (run_loadN ty27 rfl hdl hs.a0) ?_
    refine WL.enter rfl (run_call en80 rfl rfl) (hpl _ hs.clear) ?_
    rintro e w ⟨rfl, hq⟩
    refine ⟨_, rfl, ?_⟩
    replace hs := hs.callE hq
    refine WL.val rfl (run_move) ?_
    refine WL.val rfl (run_extract rfl rfl) ?_
    refine WL.val rfl (run_extract rfl rfl) ?_
    refine WL.val rfl (run_assign) ?_
    refine WL.val rfl (run_assign) ?_
    refine WL.nil ?_
    refine CW.seq <| CW.seq ?_
    refine CW.reg ?_
    refine WL.val rfl (run_move) ?_
    refine WL.val rfl (run_not rfl) ?_
    refine WL.nil ?_
    refine CW.cond rfl (fun h => ?_) (fun h => ?_)
    · refine CW.seq ?_
      refine CW.reg ?_
      refine WL.val rfl (run_assign) ?_
      refine WL.nil ?_
      refine CW.ret ?_
      refine fin_ret1 rfl ?_
      exact ⟨rfl, hs.clear⟩
    · cases h
  | some b =>
    rw [hf] at hpl
    have hobt := hpos hf
    obtain ⟨hb, hbd⟩ := hobt
    have hobt := o.row hb
    obtain ⟨bv, v, rfl, hv, hrow⟩ := hobt
    have hlt := (List.getElem?_eq_some_iff.1 hb).1
    have hbl := ok.len b (List.mem_of_getElem? hb)
    have hcell : ∀ {L : List (Nat × Obj)} {w : World}, Step [] L w0 w → w.cell? ⟨bv, 0 + posX d s.X * 34 + 33, none⟩ = some (.int .i64 (b.st : Nat)) := fun {L w} h => (hrow.step h.clear (by simp)).cell (rbC_33 hbl)
    refine calls (n := 23) Try.func71 rfl rfl rfl ?_
    refine CW.seq ?_
    refine CW.reg ?_
    refine WL.box (cs := u8s d) rfl rfl rfl hs (fun b3 w hs => ?_)
    refine WL.val rfl (run_assign) ?_
    refine WL.nil ?_
    refine CW.seq ?_
    refine CW.reg ?_
    refine WL.val rfl (run_move) ?_
    refine WL.val rfl (run_loadN ty27 rfl hdl hs.a0) ?_
    refine WL.enter rfl (run_call en80 rfl rfl) (hpl _ hs.clear) ?_
    rintro e w ⟨rfl, hq⟩
    refine ⟨_, rfl, ?_⟩
    replace hs := hs.callE hq
    refine WL.val rfl (run_move) ?_
    refine WL.val rfl (run_extract rfl rfl) ?_
    refine WL.val rfl (run_extract rfl rfl) ?_
    refine WL.val rfl (run_assign) ?_
    refine WL.val rfl (run_assign) ?_
    refine WL.nil ?_
    refine CW.seq <| CW.seq ?_
    refine CW.reg ?_
    refine WL.val rfl (run_move) ?_
    refine WL.val rfl (run_not rfl) ?_
    refine WL.nil ?_
    refine CW.cond rfl (fun h => ?_) (fun h => ?_)
    · cases h
    repeat (first | refine CW.seq ?_ | refine CW.skip ?_)
    refine CW.reg ?_
    refine WL.val rfl (run_move) ?_
    refine WL.val rfl (run_nilCheck rfl) ?_
    refine WL.val rfl (run_field (o' := 3) Try.underlying70 rfl ty68 rfl rfl rfl) ?_
    refine WL.val rfl (run_load1 ty68 rfl ((hat.step hs.clear (by simp)).cell (j := 3) rfl)) ?_
    refine WL.val rfl (run_move) ?_
    refine WL.val rfl (run_ixSlN Try.underlying68 ty76 rfl rfl (by omega)) ?_
    refine WL.val rfl (run_field (o' := 33) Try.underlying76 rfl ty3 rfl rfl rfl) ?_
    refine WL.val rfl (run_load1 ty3 rfl (hcell hs)) ?_
    refine WL.val rfl (run_assign) ?_
    refine WL.nil ?_
    refine CW.ret ?_
    refine fin_ret1 rfl ?_
    exact ⟨rfl, hs.clear⟩
end
section
variable {br : Nat} {s : AS} {D R : List (Nat × Obj)} {w0 : World} {d y : List UInt8} {v : Value} {n : Nat}
theorem RRep.head {a : Option Addr} {c : Nat} {Lv : List (Nat × Obj)} {T : List RB} (o : ROpen br s D R w0 a c Lv T) (k cap last gets puts : Nat) : RRep br ⟨k, cap, last, gets, puts, s.X⟩ D ((br, blk 70 (rsC k cap last (.slice a s.X.length c) gets puts)) :: Lv) :=
  ⟨_, Lv, T, rfl, o.own, o.view⟩
theorem Lives.kept {L L' D : List (Nat × Obj)} {w w' : World} (hw : Lives (L ++ D) w) (h : Step (L.map (·.1)) L' w w') : Lives (L' ++ D) w' :=
  Step.own (L1 := L' ++ D) (L := []) (by rw [List.append_nil]; exact Step.call (L1 := L) (L := D) hw h)
theorem Lives.tail {p : Nat × Obj} {L : List (Nat × Obj)} {w : World} (h : Lives (p :: L) w) : Lives L w := Step.own (L1 := L) (L := []) (by rw [List.append_nil]; exact Step.tail h)
theorem Lives.drop {L1 L2 : List (Nat × Obj)} {w : World} (h : Lives (L1 ++ L2) w) : Lives L2 w := Step.own (L1 := L2) (L := []) (by rw [List.append_nil]; exact Step.dropL h)
theorem Lives.perm {L1 L2 : List (Nat × Obj)} {w : World} (h : Lives L1 w) (hp : L1.Perm L2) : Lives L2 w := Step.own (L1 := L2) (L := []) (by rw [List.append_nil]; exact Step.perm h hp)
theorem rget_abs (hR : RRep br s D R) (ok : s.Ok) (hfew : s.Few n) (hn : n < 1099511627776) (hw : Lives (R ++ D) w0) (hd : d.length = 32) : Calls Try.prog 68 #[.pointer (some ⟨br, 0, none⟩), .agg (u8s d).toArray] w0 fun e w' => ∃ v' Lv' R', e = .returned (.tuple #[v', .int .i64 ((s.get d).2 : Nat)]) ∧ OwnSl 5 1 v' (s.get d).1.length (u8s (s.get d).1) Lv' ∧ RRep br s.got D R' ∧ Step (R.map (·.1)) (R' ++ Lv') w0 w' := by
  have hobt := hR.open ok hw
  obtain ⟨a, c, Lv, T, o⟩ := hobt
  have hg := hfew.gets
  have hdl : (u8s d).length = 32 := by rw [u8s, List.length_map, hd]
  have hs : Step (R.map (·.1)) R w0 w0 := hw.left
  rw [o.eqR] at hs ⊢
  have hP := RRep.head o s.k s.cap s.last (s.gets + 1) s.puts
  have okg := ok.got
  have huse := ok.used
  have hraw := fun {w a c Lv T R} (h : ROpen br s.got D R w a c Lv T) => rraw_spec (d := d) h okg hd
  have hfl := fun x => frontL_len (x := x) okg.k2
  unfold AS.has AS.raw at hraw
  unfold AS.get
  have hX : s.got.X = s.X := rfl
  rw [hX] at hraw
  cases hf : findX d s.X with
  | none =>
    rw [hf] at hraw
    simp only at hraw ⊢
    refine calls (n := 34) Try.func68 rfl rfl rfl ?_
    refine CW.seq ?_
    refine CW.reg ?_
    refine WL.box (cs := u8s d) rfl rfl rfl hs (fun b3 w hs => ?_)
    refine WL.val rfl (run_assign) ?_
    refine WL.val rfl (run_assign) ?_
    refine WL.nil ?_
    refine CW.seq ?_
    refine CW.reg ?_
    refine WL.val rfl (run_move) ?_
    refine WL.val rfl (run_nilCheck rfl) ?_
    refine WL.val rfl (run_field (o' := 4) Try.underlying70 rfl ty66 rfl rfl rfl) ?_
    refine WL.val rfl (run_field (o' := 0) Try.underlying66 rfl ty3 rfl rfl rfl) ?_
    refine WL.val rfl (run_load1 ty3 rfl (hs.c1 (v := .int .i64 (s.gets : Nat)) rfl)) ?_
    refine WL.val rfl (run_add (c := ((s.gets + 1 : Nat) : Int)) rfl rfl (by omega) (by omega)) ?_
    refine WL.val rfl (run_nilCheck rfl) ?_
    refine WL.val rfl (run_field (o' := 4) Try.underlying70 rfl ty66 rfl rfl rfl) ?_
    refine WL.val rfl (run_field (o' := 0) Try.underlying66 rfl ty3 rfl rfl rfl) ?_
    refine WL.store1_1 ty3 rfl rfl (rfl) hs (by first | (simp; done) | omega | (simp only [List.length_append, List.length_replicate, List.length_cons, List.length_nil, List.length_set]; omega) | (simp [Ent.cells, u8s]; done) | exact Nat.le_of_ble_eq_true rfl) (fun w hs => ?_)
    refine WL.nil ?_
    replace hs : Step _ ((b3, blk 27 (u8s d)) :: (br, blk 70 (rsC s.k s.cap s.last (.slice a s.X.length c) (s.gets + 1) s.puts)) :: Lv) w0 w := hs
    have hl2 : Lives (((br, blk 70 (rsC s.k s.cap s.last (.slice a s.X.length c) (s.gets + 1) s.puts)) :: Lv) ++ D) w := Lives.tail (Lives.kept (L' := _ :: _ :: Lv) (by rw [← o.eqR]; exact hw) hs)
    have ho2 := hP.open (s := s.got) okg hl2
    obtain ⟨a2, c2, Lv2, T2, o2⟩ := ho2
    refine CW.seq ?_
    refine CW.reg ?_
    refine WL.val rfl (run_move) ?_
    refine WL.val rfl (run_loadN ty27 rfl hdl hs.a0) ?_
    refine WL.enter rfl (run_call en69 rfl rfl) (hraw o2) ?_
    rintro e w ⟨v', Lv', rfl, hu', hq⟩
    refine ⟨_, rfl, ?_⟩
    replace hs := Step.append_comm (L1 := Lv') (L2 := _ :: _ :: Lv) (Step.call0 hs hq)
    refine WL.val rfl (run_move) ?_
    refine WL.val rfl (run_extract rfl rfl) ?_
    refine WL.val rfl (run_extract rfl rfl) ?_
    refine WL.val rfl (run_assign) ?_
    refine WL.val rfl (run_assign) ?_
    refine WL.nil ?_
    refine CW.seq <| CW.seq ?_
    refine CW.reg ?_
    refine WL.val rfl (run_move) ?_
    refine WL.val rfl (run_not rfl) ?_
    refine WL.nil ?_
    refine CW.cond rfl (fun h => ?_) (fun h => ?_)
    · refine CW.seq ?_
      refine CW.reg ?_
      refine WL.val rfl (run_assign) ?_
      refine WL.val rfl (run_assign) ?_
      refine WL.nil ?_
      refine CW.ret ?_
      refine fin_ret2 rfl ?_
      exact ⟨_, [], _, rfl, OwnSl.nil _ _, hP, by rw [List.append_nil]; exact Step.tail (Step.dropR (L1 := _ :: _ :: Lv) hs)⟩
    · cases h
  | some b =>
    have hbu := used_mem (findX_some hf).1
    rw [hf] at hraw
    simp only at hraw ⊢
    have hfb := hfl b.x
    by_cases hk : frontL b.x s.k = d
    · simp only [hk, if_true]
      refine calls (n := 34) Try.func68 rfl rfl rfl ?_
      refine CW.seq ?_
      refine CW.reg ?_
      refine WL.box (cs := u8s d) rfl rfl rfl hs (fun b3 w hs => ?_)
      refine WL.val rfl (run_assign) ?_
      refine WL.val rfl (run_assign) ?_
      refine WL.nil ?_
      refine CW.seq ?_
      refine CW.reg ?_
      refine WL.val rfl (run_move) ?_
      refine WL.val rfl (run_nilCheck rfl) ?_
      refine WL.val rfl (run_field (o' := 4) Try.underlying70 rfl ty66 rfl rfl rfl) ?_
      refine WL.val rfl (run_field (o' := 0) Try.underlying66 rfl ty3 rfl rfl rfl) ?_
      refine WL.val rfl (run_load1 ty3 rfl (hs.c1 (v := .int .i64 (s.gets : Nat)) rfl)) ?_
      refine WL.val rfl (run_add (c := ((s.gets + 1 : Nat) : Int)) rfl rfl (by omega) (by omega)) ?_
      refine WL.val rfl (run_nilCheck rfl) ?_
      refine WL.val rfl (run_field (o' := 4) Try.underlying70 rfl ty66 rfl rfl rfl) ?_
      refine WL.val rfl (run_field (o' := 0) Try.underlying66 rfl ty3 rfl rfl rfl) ?_
      refine WL.store1_1 ty3 rfl rfl (rfl) hs (by first | (simp; done) | omega | (simp only [List.length_append, List.length_replicate, List.length_cons, List.length_nil, List.length_set]; omega) | (simp [Ent.cells, u8s]; done) | exact Nat.le_of_ble_eq_true rfl) (fun w hs => ?_)
      refine WL.nil ?_
      replace hs : Step _ ((b3, blk 27 (u8s d)) :: (br, blk 70 (rsC s.k s.cap s.last (.slice a s.X.length c) (s.gets + 1) s.puts)) :: Lv) w0 w := hs
      have hl2 : Lives (((br, blk 70 (rsC s.k s.cap s.last (.slice a s.X.length c) (s.gets + 1) s.puts)) :: Lv) ++ D) w := Lives.tail (Lives.kept (L' := _ :: _ :: Lv) (by rw [← o.eqR]; exact hw) hs)
      have ho2 := hP.open (s := s.got) okg hl2
      obtain ⟨a2, c2, Lv2, T2, o2⟩ := ho2
      refine CW.seq ?_
      refine CW.reg ?_
      refine WL.val rfl (run_move) ?_
      refine WL.val rfl (run_loadN ty27 rfl hdl hs.a0) ?_
      refine WL.enter rfl (run_call en69 rfl rfl) (hraw o2) ?_
      rintro e w ⟨v', Lv', rfl, hu', hq⟩
      refine ⟨_, rfl, ?_⟩
      replace hs := Step.append_comm (L1 := Lv') (L2 := _ :: _ :: Lv) (Step.call0 hs hq)
      refine WL.val rfl (run_move) ?_
      refine WL.val rfl (run_extract rfl rfl) ?_
      refine WL.val rfl (run_extract rfl rfl) ?_
      refine WL.val rfl (run_assign) ?_
      refine WL.val rfl (run_assign) ?_
      refine WL.nil ?_
      refine CW.seq <| CW.seq ?_
      refine CW.reg ?_
      refine WL.val rfl (run_move) ?_
      refine WL.val rfl (run_not rfl) ?_
      refine WL.nil ?_
      refine CW.cond rfl (fun h => ?_) (fun h => ?_)
      · cases h
      repeat (first | refine CW.seq ?_ | refine CW.skip ?_)
      refine CW.quiet mixedP (by kernel_rfl) hs ?_
      refine QL.val rfl (fun w hs => run_move) ?_
      refine QL.val rfl (fun w hs => run_nilCheck rfl) ?_
      refine QL.val rfl (fun w hs => run_field (o' := 0) Try.underlying70 rfl ty3 rfl rfl rfl) ?_
      refine QL.val rfl (fun w hs => run_load1 ty3 rfl (hs.c1 (v := .int .i64 (s.k : Nat)) rfl)) ?_
      refine QL.val rfl (fun w hs => run_move) ?_
      refine QL.enter rfl (fun w => run_call en13 rfl rfl) (fun w hs => ofR_spec _ (hu'.sl (Step.append_comm (L1 := _ :: _ :: Lv) hs)) (by omega) ok.k1 ok.k2) ?_
      refine QL.val rfl (fun w hs => run_loadN ty27 rfl hdl hs.a0) ?_
      refine QL.val rfl (fun w hs => run_bF (run_neDig hfb hd rfl rfl) (fun e => e hk)) ?_
      refine QL.nil (fun w hs => ?_)
      refine CW.cond rfl (fun h => ?_) (fun h => ?_)
      · cases h
      repeat (first | refine CW.seq ?_ | refine CW.skip ?_)
      refine CW.reg ?_
      refine WL.val rfl (run_move) ?_
      refine WL.val rfl (run_assign) ?_
      refine WL.val rfl (run_assign) ?_
      refine WL.nil ?_
      refine CW.ret ?_
      refine fin_ret2 rfl ?_
      exact ⟨v', Lv', _, rfl, hu', hP, Step.tail (L := (_ :: Lv) ++ Lv') hs⟩
    · simp only [hk, if_false]
      refine calls (n := 34) Try.func68 rfl rfl rfl ?_
      refine CW.seq ?_
      refine CW.reg ?_
      refine WL.box (cs := u8s d) rfl rfl rfl hs (fun b3 w hs => ?_)
      refine WL.val rfl (run_assign) ?_
      refine WL.val rfl (run_assign) ?_
      refine WL.nil ?_
      refine CW.seq ?_
      refine CW.reg ?_
      refine WL.val rfl (run_move) ?_
      refine WL.val rfl (run_nilCheck rfl) ?_
      refine WL.val rfl (run_field (o' := 4) Try.underlying70 rfl ty66 rfl rfl rfl) ?_
      refine WL.val rfl (run_field (o' := 0) Try.underlying66 rfl ty3 rfl rfl rfl) ?_
      refine WL.val rfl (run_load1 ty3 rfl (hs.c1 (v := .int .i64 (s.gets : Nat)) rfl)) ?_
      refine WL.val rfl (run_add (c := ((s.gets + 1 : Nat) : Int)) rfl rfl (by omega) (by omega)) ?_
      refine WL.val rfl (run_nilCheck rfl) ?_
      refine WL.val rfl (run_field (o' := 4) Try.underlying70 rfl ty66 rfl rfl rfl) ?_
      refine WL.val rfl (run_field (o' := 0) Try.underlying66 rfl ty3 rfl rfl rfl) ?_
      refine WL.store1_1 ty3 rfl rfl (rfl) hs (by first | (simp; done) | omega | (simp only [List.length_append, List.length_replicate, List.length_cons, List.length_nil, List.length_set]; omega) | (simp [Ent.cells, u8s]; done) | exact Nat.le_of_ble_eq_true rfl) (fun w hs => ?_)
      refine WL.nil ?_
      replace hs : Step _ ((b3, blk 27 (u8s d)) :: (br, blk 70 (rsC s.k s.cap s.last (.slice a s.X.length c) (s.gets + 1) s.puts)) :: Lv) w0 w := hs
      have hl2 : Lives (((br, blk 70 (rsC s.k s.cap s.last (.slice a s.X.length c) (s.gets + 1) s.puts)) :: Lv) ++ D) w := Lives.tail (Lives.kept (L' := _ :: _ :: Lv) (by rw [← o.eqR]; exact hw) hs)
      have ho2 := hP.open (s := s.got) okg hl2
      obtain ⟨a2, c2, Lv2, T2, o2⟩ := ho2
      refine CW.seq ?_
      refine CW.reg ?_
      refine WL.val rfl (run_move) ?_
      refine WL.val rfl (run_loadN ty27 rfl hdl hs.a0) ?_
      refine WL.enter rfl (run_call en69 rfl rfl) (hraw o2) ?_
      rintro e w ⟨v', Lv', rfl, hu', hq⟩
      refine ⟨_, rfl, ?_⟩
      replace hs := Step.append_comm (L1 := Lv') (L2 := _ :: _ :: Lv) (Step.call0 hs hq)
      refine WL.val rfl (run_move) ?_
      refine WL.val rfl (run_extract rfl rfl) ?_
      refine WL.val rfl (run_extract rfl rfl) ?_
      refine WL.val rfl (run_assign) ?_
      refine WL.val rfl (run_assign) ?_
      refine WL.nil ?_
      refine CW.seq <| CW.seq ?_
      refine CW.reg ?_
      refine WL.val rfl (run_move) ?_
      refine WL.val rfl (run_not rfl) ?_
      refine WL.nil ?_
      refine CW.cond rfl (fun h => ?_) (fun h => ?_)
      · cases h
      repeat (first | refine CW.seq ?_ | refine CW.skip ?_)
      refine CW.quiet mixedP (by kernel_rfl) hs ?_
      refine QL.val rfl (fun w hs => run_move) ?_
      refine QL.val rfl (fun w hs => run_nilCheck rfl) ?_
      refine QL.val rfl (fun w hs => run_field (o' := 0) Try.underlying70 rfl ty3 rfl rfl rfl) ?_
      refine QL.val rfl (fun w hs => run_load1 ty3 rfl (hs.c1 (v := .int .i64 (s.k : Nat)) rfl)) ?_
      refine QL.val rfl (fun w hs => run_move) ?_
      refine QL.enter rfl (fun w => run_call en13 rfl rfl) (fun w hs => ofR_spec _ (hu'.sl (Step.append_comm (L1 := _ :: _ :: Lv) hs)) (by omega) ok.k1 ok.k2) ?_
      refine QL.val rfl (fun w hs => run_loadN ty27 rfl hdl hs.a0) ?_
      refine QL.val rfl (fun w hs => run_bT (run_neDig hfb hd rfl rfl) hk) ?_
      refine QL.nil (fun w hs => ?_)
      refine CW.cond rfl (fun h => ?_) (fun h => ?_)
      · refine CW.seq ?_
        refine CW.reg ?_
        refine WL.val rfl (run_assign) ?_
        refine WL.val rfl (run_assign) ?_
        refine WL.nil ?_
        refine CW.ret ?_
        refine fin_ret2 rfl ?_
        exact ⟨_, [], _, rfl, OwnSl.nil _ _, hP, by rw [List.append_nil]; exact Step.tail (Step.dropR (L1 := _ :: _ :: Lv) hs)⟩
      · cases h
end
end Go.Gx
/-! RS5 -/
namespace Go.Gx
open Go.Proofs
set_option linter.unusedVariables false
set_option linter.unusedSimpArgs false
set_option maxRecDepth 100000
attribute [local irreducible] shaL cutD frontL
def cutV (a : Option Addr) (lo hi c : Nat) : Value := match a with | none => .slice none 0 0 | some ad => cutSl 34 ad.block 0 lo hi c
theorem bld_rb32 (a0 a1 a2 a3 a4 a5 a6 a7 a8 a9 a10 a11 a12 a13 a14 a15 a16 a17 a18 a19 a20 a21 a22 a23 a24 a25 a26 a27 a28 a29 a30 a31 : UInt8) (a : Option Addr) (n c : Nat) (z : Int) (w : World) : (Instr.build 76 #[(0, .agg (u8s [a0, a1, a2, a3, a4, a5, a6, a7, a8, a9, a10, a11, a12, a13, a14, a15, a16, a17, a18, a19, a20, a21, a22, a23, a24, a25, a26, a27, a28, a29, a30, a31]).toArray), (1, .slice a n c), (2, .int .i64 z)]).run Try.prog w = .ok (.agg (u8s [a0, a1, a2, a3, a4, a5, a6, a7, a8, a9, a10, a11, a12, a13, a14, a15, a16, a17, a18, a19, a20, a21, a22, a23, a24, a25, a26, a27, a28, a29, a30, a31] ++ [Value.slice a n c, .int .i64 z]).toArray) w := by kernel_rfl
theorem bld_rb {d : List UInt8} (hd : d.length = 32) (a : Option Addr) (n c : Nat) (st : Nat) (w : World) : (Instr.build 76 #[(0, .agg (u8s d).toArray), (1, .slice a n c), (2, .int .i64 (st : Nat))]).run Try.prog w = .ok (.agg (rbC (d, .slice a n c, st)).toArray) w := by
  have hobt := cells32 hd
  obtain ⟨a0, a1, a2, a3, a4, a5, a6, a7, a8, a9, a10, a11, a12, a13, a14, a15, a16, a17, a18, a19, a20, a21, a22, a23, a24, a25, a26, a27, a28, a29, a30, a31, rfl⟩ := hobt
  exact bld_rb32 a0 a1 a2 a3 a4 a5 a6 a7 a8 a9 a10 a11 a12 a13 a14 a15 a16 a17 a18 a19 a20 a21 a22 a23 a24 a25 a26 a27 a28 a29 a30 a31 a n c (st : Nat) w
theorem rbC_cells1 {t : RB} (h : t.2.1.oneCell' = true) : Cells1 (rbC t) := by
  intro v hv
  rcases List.mem_append.1 hv with h1 | h1
  · exact Cells1.u8s t.1 v h1
  · simp only [List.mem_cons, List.not_mem_nil, or_false] at h1
    rcases h1 with rfl | rfl
    · exact h
    · rfl
section
variable {br : Nat} {s : AS} {D R Lv : List (Nat × Obj)} {w0 : World} {d y : List UInt8} {v : Value} {a : Option Addr} {c n : Nat} {T : List RB}
theorem ROpen.later (o : ROpen br s D R w0 a c Lv T) (k cap last gets puts : Nat) {w : World} (hs : Step (R.map (·.1)) ((br, blk 70 (rsC k cap last (.slice a s.X.length c) gets puts)) :: Lv) w0 w) :
    ROpen br ⟨k, cap, last, gets, puts, s.X⟩ D ((br, blk 70 (rsC k cap last (.slice a s.X.length c) gets puts)) :: Lv) w a c Lv T := by
  refine ⟨rfl, o.own, o.view, hs.hd, ?_, fun p hp => hs.old (o.dat p hp) (o.out p hp), o.len, ?_⟩
  · intro p hp
    have := o.out p hp
    rw [o.eqR] at this
    exact this
  · have hown := o.own
    obtain ⟨hl, ⟨h4, h5, h6⟩ | ⟨b, cap, more, h4, h5, h6⟩⟩ := hown
    · exact .inl (List.eq_nil_of_length_eq_zero h5)
    · have hobt := Value.slice.inj h4
      obtain ⟨rfl, -, rfl⟩ := hobt
      refine .inr ⟨b, rfl, ?_⟩
      have : w.heap[b]? = some (blk 76 (rowsT T ++ more)) := hs.has (b, blk 76 (rowsT T ++ more)) (by simp [h5])
      exact (At.of_blk this).left
/-- The list: nil, or at the head of its block. -/
theorem ROpen.nilOr (o : ROpen br s D R w0 a c Lv T) : (a = none ∧ s.X = [] ∧ c = 0 ∧ Lv = [] ∧ T = []) ∨ ∃ b more, a = some ⟨b, 0, none⟩ ∧ Lv = [(b, blk 76 (rowsT T ++ more))] ∧ (rowsT T ++ more).length = c * 34 ∧ s.X.length ≤ c := by
  have hown := o.own
  have hv := o.view.length
  obtain ⟨hl, ⟨h4, h5, h6⟩ | ⟨b, cap, more, h4, h5, h6⟩⟩ := hown
  · have hobt := Value.slice.inj h4
    obtain ⟨rfl, -, rfl⟩ := hobt
    refine .inl ⟨rfl, List.eq_nil_of_length_eq_zero h5, rfl, h6, List.eq_nil_of_length_eq_zero (by omega)⟩
  · have hobt := Value.slice.inj h4
    obtain ⟨rfl, -, rfl⟩ := hobt
    refine .inr ⟨b, more, rfl, h5, h6, ?_⟩
    rw [List.length_append, hl] at h6
    omega
theorem run_cut {f : Slots} {w : World} {dd : Option Tmp} {ty : TypeId} {pos : String} {af : Array Edge} {x : Operand} {xl xh : Option Operand} {lo hi : Nat} (o : ROpen br s D R w0 a c Lv T) (hx : ev f x = .slice a s.X.length c)
    (hl : LoOk (xl.map (ev f)) lo) (hh : HiOk (xh.map (ev f)) hi s.X.length) (h1 : lo ≤ hi) (h2 : hi ≤ s.X.length) :
    (execOp (ev f) ⟨dd, .slice 68 x xl xh none, ty, pos, af, none⟩).run Try.prog w = .ok (.value (cutV a lo hi c)) w := by
  rcases o.nilOr with ⟨rfl, h3, rfl, h4, h5⟩ | ⟨b, more, rfl, h3, h4, h5⟩
  · rw [h3] at hx hh h2
    simp only [List.length_nil, Nat.le_zero] at h2
    subst h2
    obtain rfl : lo = 0 := by omega
    exact run_sliceNil Try.underlying68 ty76 hx hl hh
  · exact run_sliceSl Try.underlying68 ty76 hx hl hh (m := c) rfl (by simp) h1 (by omega) (Nat.le_refl _)
theorem cut_sl {w : World} {lo hi : Nat} (o : ROpen br s D R w a c Lv T) (h1 : lo ≤ hi) (h2 : hi ≤ s.X.length) : Sl w 34 (cutV a lo hi c) (hi - lo) (rowsT ((T.take hi).drop lo)) := by
  have hv := o.view.length
  have hlen : ∀ t ∈ (T.take hi).drop lo, t.1.length = 32 := fun t ht => o.len t (List.mem_of_mem_take (List.mem_of_mem_drop ht))
  have hcl : (rowsT ((T.take hi).drop lo)).length = (hi - lo) * 34 := by rw [rowsT_len hlen, List.length_drop, List.length_take, Nat.min_eq_left (by omega)]
  rcases o.nilOr with ⟨rfl, h3, rfl, h4, h5⟩ | ⟨b, more, rfl, h3, h4, h5⟩
  · rw [h3] at h2
    simp only [List.length_nil, Nat.le_zero] at h2
    subst h2
    obtain rfl : lo = 0 := by omega
    subst h5
    exact Sl.nil _ _ _
  · rcases o.rows with h6 | ⟨b', h6, hat⟩
    · rw [h6] at h2
      simp only [List.length_nil, Nat.le_zero] at h2
      subst h2
      obtain rfl : lo = 0 := by omega
      refine ⟨hcl, .inr ⟨b, _, _, rfl, ?_⟩⟩
      simp only [List.take_zero, List.drop_zero]
      exact At.nil
    · obtain rfl : b = b' := by injection h6 with h6; injection h6
      have e : rowsT T = rowsT (T.take lo) ++ (rowsT ((T.take hi).drop lo) ++ rowsT (T.drop hi)) := by
        rw [← rowsT_append, ← rowsT_append]
        congr 1
        have h7 : T.take lo = (T.take hi).take lo := by rw [List.take_take, Nat.min_eq_left h1]
        rw [h7, ← List.append_assoc, List.take_append_drop, List.take_append_drop]
      have htl : (rowsT (T.take lo)).length = lo * 34 := by rw [rowsT_len (fun t ht => o.len t (List.mem_of_mem_take ht)), List.length_take, Nat.min_eq_left (by omega)]
      rw [e] at hat
      have h8 := hat.right.left
      rw [htl] at h8
      show Sl w 34 (cutSl 34 b 0 lo hi c) (hi - lo) _
      by_cases hc : c = lo
      · have h9 : hi = lo := by omega
        subst h9
        refine ⟨hcl, .inr ⟨b, _, _, rfl, ?_⟩⟩
        have : rowsT ((T.take hi).drop hi) = [] := List.eq_nil_of_length_eq_zero (by rw [hcl]; simp)
        rw [this]
        exact At.nil
      · refine ⟨hcl, .inr ⟨b, _, _, rfl, ?_⟩⟩
        rw [if_neg hc]
        exact h8
theorem rowsT_cells1 {T : List RB} (h : ∀ t ∈ T, t.2.1.oneCell' = true) : Cells1 (rowsT T) := by
  intro v hv
  simp only [rowsT, List.mem_flatten, List.mem_map] at hv
  obtain ⟨l, ⟨t, ht, rfl⟩, hv⟩ := hv
  exact rbC_cells1 (h t ht) v hv
theorem RView.one {D : List (Nat × Obj)} {T : List RB} {X : List Blb} (h : RView D T X) : ∀ t ∈ T, t.2.1.oneCell' = true := by
  induction h with
  | nil => intro t ht; cases ht
  | cons h _ ih =>
    intro t ht
    rcases List.mem_cons.1 ht with rfl | ht
    · have hobt := h.2.2.form
      obtain ⟨a, c, he⟩ := hobt
      rw [he]; rfl
    · exact ih t ht
theorem rows_set {T : List RB} (hl : ∀ t ∈ T, t.1.length = 32) {i : Nat} (hi : i < T.length) {t : RB} (ht : t.1.length = 32) (more : List Value) : splice (rowsT T ++ more) (0 + i * 34) (rbC t) = rowsT (T.set i t) ++ more := by
  have e : T = T.take i ++ T[i] :: T.drop (i + 1) := by rw [← List.drop_eq_getElem_cons hi, List.take_append_drop]
  have e2 : T.set i t = T.take i ++ t :: T.drop (i + 1) := List.set_eq_take_append_cons_drop .. |>.trans (by rw [if_pos hi])
  have htl : (rowsT (T.take i)).length = i * 34 := by rw [rowsT_len (fun t ht => hl t (List.mem_of_mem_take ht)), List.length_take, Nat.min_eq_left (by omega)]
  have hc : ∀ (x : RB) (A B : List RB), rowsT (A ++ x :: B) = rowsT A ++ rbC x ++ rowsT B := by intro x A B; simp [rowsT]
  rw [e2, hc]
  have : rowsT T = rowsT (T.take i) ++ rbC T[i] ++ rowsT (T.drop (i + 1)) := by rw [← hc, ← e]
  rw [this, List.append_assoc _ (rowsT (T.drop (i + 1))) more, List.append_assoc _ (rowsT (T.drop (i + 1))) more]
  exact splice_mid (by rw [htl]; omega) (by rw [rbC_len ht, rbC_len (hl _ (List.getElem_mem hi))])
end
end Go.Gx
/-! RS6 -/
namespace Go.Gx
open Go.Proofs
set_option linter.unusedVariables false
set_option linter.unusedSimpArgs false
set_option maxRecDepth 100000
attribute [local irreducible] shaL cutD frontL
section
variable {br : Nat} {s : AS} {D R : List (Nat × Obj)} {w0 : World} {d y : List UInt8} {v : Value} {n : Nat}
set_option maxHeartbeats 4000000 in
theorem rlay_abs (hR : RRep br s D R) (ok : s.Ok) (hfew : s.Few n) (hn : n < 1099511627776) (hw : Lives (R ++ D) w0) (hd : d.length = 32) (hy : Sl w0 1 v y.length (u8s y)) (hO : OutE v y (R.map (·.1))) (hsy : y.length < 1099511627776) :
    Calls Try.prog 83 #[.pointer (some ⟨br, 0, none⟩), .agg (u8s d).toArray, v] w0 fun e w' => ∃ R' D', e = .returned (.tuple #[]) ∧ RRep br { s with last := s.last + 1, X := insX ⟨d, y, s.last + 1⟩ s.X } (D' ++ D) R' ∧ Step (R.map (·.1)) (R' ++ D') w0 w' := by
  have hobt := hR.open ok hw
  obtain ⟨a, c, Lv, T, o⟩ := hobt
  have hla := hfew.last
  have hdl : (u8s d).length = 32 := by rw [u8s, List.length_map, hd]
  have hXl := used_len s.X
  have huse := ok.used
  have hs : Step (R.map (·.1)) ((br, blk 70 (rsC s.k s.cap s.last (.slice a s.X.length c) s.gets s.puts)) :: Lv) w0 w0 := by have h := hw.left; rw [← o.eqR]; exact h
  have hobt : ∃ S, R.map (·.1) = S := ⟨_, rfl⟩
  obtain ⟨S, hSe⟩ := hobt
  have hlat : ∀ {w : World}, Step S ((br, blk 70 (rsC s.k s.cap (s.last + 1) (.slice a s.X.length c) s.gets s.puts)) :: Lv) w0 w → ROpen br ⟨s.k, s.cap, s.last + 1, s.gets, s.puts, s.X⟩ D ((br, blk 70 (rsC s.k s.cap (s.last + 1) (.slice a s.X.length c) s.gets s.puts)) :: Lv) w a c Lv T := fun h => o.later s.k s.cap (s.last + 1) s.gets s.puts (by rw [hSe]; exact h)
  have ok1 : (⟨s.k, s.cap, s.last + 1, s.gets, s.puts, s.X⟩ : AS).Ok := ⟨ok.k1, ok.k2, ok.cap, ok.sorted, ok.len, ok.used⟩
  have hpl := fun {w a c Lv T R} (h : ROpen br ⟨s.k, s.cap, s.last + 1, s.gets, s.puts, s.X⟩ D R w a c Lv T) => place_spec (d := d) h ok1 hd
  simp only [hSe] at hs hO ⊢
  have hobt : ∃ b, b = Blb.mk d y (s.last + 1) := ⟨_, rfl⟩
  obtain ⟨b, hbe⟩ := hobt
  have hbd : b.d = d := by rw [hbe]
  have hple := posX_le d s.X
  have hTl := o.view.length
  rw [← hbe]
  unfold AS.has at hpl
  simp only at hpl
  cases hf : findX d s.X with
  | some b0 =>
    rw [hf] at hpl
    have hobt := pos_some ok.sorted hf
    obtain ⟨hb0, hb0d⟩ := hobt
    have hlt := (List.getElem?_eq_some_iff.1 hb0).1
    have hnil := o.nilOr
    obtain ⟨h1, h2, h3⟩ | ⟨bv, more, hae, hLe, hcl, hnc⟩ := hnil
    · rw [h2] at hlt; simp at hlt
    refine calls (n := 63) Try.func83 rfl rfl rfl ?_
    refine CW.seq ?_
    refine CW.reg ?_
    refine WL.box (cs := u8s d) rfl rfl rfl hs (fun b4 w hs => ?_)
    refine WL.nil ?_
    refine CW.seq ?_
    refine CW.reg ?_
    refine WL.val rfl (run_move) ?_
    refine WL.val rfl (run_nilCheck rfl) ?_
    refine WL.val rfl (run_field (o' := 2) Try.underlying70 rfl ty3 rfl rfl rfl) ?_
    refine WL.val rfl (run_load1 ty3 rfl (hs.c1 (v := .int .i64 (s.last : Nat)) rfl)) ?_
    refine WL.val rfl (run_add (c := ((s.last + 1 : Nat) : Int)) rfl rfl (by omega) (by omega)) ?_
    refine WL.val rfl (run_nilCheck rfl) ?_
    refine WL.val rfl (run_field (o' := 2) Try.underlying70 rfl ty3 rfl rfl rfl) ?_
    refine WL.store1_1 ty3 rfl rfl (rfl) hs (by first | (simp; done) | omega | (simp only [List.length_append, List.length_replicate, List.length_cons, List.length_nil, List.length_set]; omega) | (simp [Ent.cells, u8s]; done) | exact Nat.le_of_ble_eq_true rfl) (fun w hs => ?_)
    refine WL.nil ?_
    replace hs : Step S ((b4, blk 27 (u8s d)) :: (br, blk 70 (rsC s.k s.cap (s.last + 1) (.slice a s.X.length c) s.gets s.puts)) :: Lv) w0 w := hs
    refine CW.seq ?_
    refine CW.any (A := fun w => Step S ((b4, blk 27 (u8s d)) :: (br, blk 70 (rsC s.k s.cap (s.last + 1) (.slice a s.X.length c) s.gets s.puts)) :: Lv) w0 w) (C := fun w => Step S ((b4, blk 27 (u8s d)) :: (br, blk 70 (rsC s.k s.cap (s.last + 1) (.slice a s.X.length c) s.gets s.puts)) :: Lv) w0 w) 1000000 11 mixedP rfl ?_
    replace hs := hs.drew
    refine AL.val 0 rfl (by kernel_rfl) rfl (fun w hs => run_loadN ty27 rfl hdl hs.a0) ?_
    refine AL.val 2 rfl (by kernel_rfl) rfl (fun w hs => run_move) ?_
    refine AL.val 4 rfl (by kernel_rfl) rfl (fun w hs => run_move) ?_
    refine AL.val 5 rfl (by kernel_rfl) rfl (fun w hs => run_nilCheck rfl) ?_
    refine AL.val 6 rfl (by kernel_rfl) rfl (fun w hs => run_field (o' := 2) Try.underlying70 rfl ty3 rfl rfl rfl) ?_
    refine AL.val 7 rfl (by kernel_rfl) rfl (fun w hs => run_load1 ty3 rfl (hs.c1 (v := .int .i64 (s.last + 1 : Nat)) rfl)) ?_
    refine AL.two 1 9 (by kernel_rfl) rfl rfl (by first | exact hs | exact hs.tail | exact hs.tail.tail | exact hs.dropL (L1 := Lv20) | exact (hs.tail).dropL (L1 := Lv20)) (by first | exact hs | exact hs.tail | exact hs.tail.tail | exact hs.dropL (L1 := Lv20) | exact (hs.tail).dropL (L1 := Lv20)) ?_ ?_
    · refine WL.buildSlice (cs := []) Try.underlying22 ty5 rfl (by decide) rfl (by rfl) rfl hs (fun b18 w hs => ?_)
      refine WL.nil ?_
      refine ⟨rfl, ?_⟩
      refine AL.two 3 9 (by kernel_rfl) rfl rfl (by first | exact hs | exact hs.tail | exact hs.tail.tail | exact hs.dropL (L1 := Lv20) | exact (hs.tail).dropL (L1 := Lv20)) (by first | exact hs | exact hs.tail | exact hs.tail.tail | exact hs.dropL (L1 := Lv20) | exact (hs.tail).dropL (L1 := Lv20)) ?_ ?_
      · refine WL.append Try.underlying22 Try.underlying22 ty5 rfl (by decide) rfl rfl (OwnSl.mk (b := b18) (xs := []) (k := 0) rfl) ((by first | exact hs | exact hs.swap)) (hy.stepE hs hO) (Cells1.u8s _) (by first | omega | (simp only [List.length_append, List.length_cons, List.length_nil]; omega)) rfl (fun v20 Lv20 w hv20 hs => ?_)
        obtain ⟨xa, xc, rfl⟩ := hv20.form
        refine WL.nil ?_
        refine ⟨rfl, ?_⟩
        refine AL.val 8 rfl (by kernel_rfl) rfl (fun w hs => run_build rfl ((bld_rb hd xa _ xc (s.last + 1) _))) ?_
        refine AL.one 9 (by kernel_rfl) rfl (by first | exact hs | exact hs.tail | exact hs.tail.tail | exact hs.dropL (L1 := Lv20) | exact (hs.tail).dropL (L1 := Lv20)) (by first | exact hs | exact hs.tail | exact hs.tail.tail | exact hs.dropL (L1 := Lv20) | exact (hs.tail).dropL (L1 := Lv20)) ?_
        refine WL.alloc ty76 rfl hs (fun b6 w hs => ?_)
        refine WL.nil ?_
        refine ⟨rfl, ?_⟩
        refine AL.one 10 (by kernel_rfl) rfl (by first | exact hs | exact hs.tail | exact hs.tail.tail | exact hs.dropL (L1 := Lv20) | exact (hs.tail).dropL (L1 := Lv20)) (by first | exact hs | exact hs.tail | exact hs.tail.tail | exact hs.dropL (L1 := Lv20) | exact (hs.tail).dropL (L1 := Lv20)) ?_
        refine WL.storeAll ty76 rfl rfl ((rbC_len hd)) (rbC_cells1 rfl) hs (by first | rfl | assumption) (fun w hs => ?_)
        refine WL.nil ?_
        refine ⟨rfl, ?_⟩
        refine AL.end (by kernel_rfl) (by first | exact hs | exact hs.tail | exact hs.tail.tail | exact hs.dropL (L1 := Lv20) | exact (hs.tail).dropL (L1 := Lv20)) (by first | exact hs | exact hs.tail | exact hs.tail.tail | exact hs.dropL (L1 := Lv20) | exact (hs.tail).dropL (L1 := Lv20)) ?_
        have hv : OwnSl 5 1 (.slice xa (0 + y.length) xc) y.length (u8s y) Lv20 := by have h := hv20; rw [Nat.zero_add, List.nil_append] at h; rw [Nat.zero_add]; exact h
        have hrb : ∀ {X : List (Nat × Obj)}, (∀ p ∈ Lv20, p ∈ X) → RbB X (d, .slice xa (0 + y.length) xc, s.last + 1) b := fun {X} h => ⟨hbd.symm, by rw [hbe], Lv20, by rw [hbe]; exact hv, h⟩
        replace hs := (hs.perm (List.Perm.cons _ (List.perm_append_comm (l₁ := Lv20) (l₂ := _ :: _ :: Lv)))).swap
        refine CW.seq ?_
        refine CW.reg ?_
        refine WL.val rfl (run_move) ?_
        refine WL.val rfl (run_loadN ty27 rfl hdl hs.a0) ?_
        refine WL.enter rfl (run_call en80 rfl rfl) (hpl (hlat (Step.dropR (L1 := _ :: Lv) (Step.tail (Step.tail hs))))) ?_
        rintro e w ⟨rfl, hq⟩
        refine ⟨_, rfl, ?_⟩
        replace hs := hs.callE hq
        refine WL.val rfl (run_move) ?_
        refine WL.val rfl (run_extract rfl rfl) ?_
        refine WL.val rfl (run_extract rfl rfl) ?_
        refine WL.val rfl (run_assign) ?_
        refine WL.val rfl (run_assign) ?_
        refine WL.nil ?_
        subst hae
        subst hLe
        refine CW.seq <| CW.seq ?_
        refine CW.reg ?_
        refine WL.val rfl (run_move) ?_
        refine WL.nil ?_
        refine CW.cond rfl (fun h => ?_) (fun h => ?_)
        · refine CW.seq ?_
          refine CW.quietT (l1 := [_, _, _, _, _, _, _]) (l2 := [_]) 7 rfl mixedP rfl (by kernel_rfl) hs ?_
          refine QL.val rfl (fun w hs => run_move) ?_
          refine QL.val rfl (fun w hs => run_nilCheck rfl) ?_
          refine QL.val rfl (fun w hs => run_field (o' := 3) Try.underlying70 rfl ty68 rfl rfl rfl) ?_
          refine QL.val rfl (fun w hs => run_load1 ty68 rfl ((Step.tail (Step.tail hs)).c0 (v := .slice (some ⟨bv, 0, none⟩) s.X.length c) rfl)) ?_
          refine QL.val rfl (fun w hs => run_move) ?_
          refine QL.val rfl (fun w hs => run_loadN ty76 rfl (rbC_len hd) hs.a1) ?_
          refine QL.val rfl (fun w hs => run_ixSlN Try.underlying68 ty76 rfl rfl (by omega)) ?_
          refine QL.nil (fun w hs => ?_)
          refine WL.storeN ty76 rfl rfl ((rbC_len hd)) (rbC_cells1 rfl) (hs.front [_, _, _]) (by first | (simp; done) | omega | (simp only [List.length_append, List.length_replicate, List.length_cons, List.length_nil, List.length_set]; omega) | (simp [Ent.cells, u8s]; done) | exact Nat.le_of_ble_eq_true rfl) (fun w hs => ?_)
          refine WL.nil ?_
          replace hs := Step.blkEq (rows_set o.len (by omega) hd more) hs
          refine CW.ret ?_
          refine fin_ret0 rfl ?_
          have e := ins_there (b := b) ok.sorted (by rw [hbd, hf]; rfl)
          rw [hbd] at e
          refine ⟨_, Lv20, rfl, ⟨.slice (some ⟨bv, 0, none⟩) s.X.length c, _, T.set (posX d s.X) (d, .slice xa (0 + y.length) xc, s.last + 1), rfl, ?_, ?_⟩, Step.append_comm (L1 := Lv20) (L2 := [_, _]) (Step.tail (Step.tail (Step.append_comm (L1 := [_, _]) (L2 := _ :: _ :: Lv20) (hs.front [_, _, _]))))⟩
          · simp only [e, List.length_set]
            have hT' : ∀ t ∈ T.set (posX d s.X) (d, Value.slice xa (0 + y.length) xc, s.last + 1), t.1.length = 32 := fun t ht => by
              rcases List.mem_or_eq_of_mem_set ht with h | rfl
              · exact o.len t h
              · exact hd
            refine ⟨by rw [rowsT_len hT', List.length_set, hTl], .inr ⟨bv, c, more, rfl, rfl, ?_⟩⟩
            rw [List.length_append, rowsT_len hT', List.length_set, ← rowsT_len o.len, ← List.length_append]; exact hcl
          · simp only [e]
            exact (o.view.mono fun p hp => List.mem_append_right _ hp).set (hrb fun p hp => List.mem_append_left _ hp) _
        · cases h
      · refine WL.alloc ty76 rfl hs (fun b6 w hs => ?_)
        refine WL.nil ?_
        refine ⟨rfl, ?_⟩
        refine AL.one 3 (by kernel_rfl) rfl (by first | exact hs | exact hs.tail | exact hs.tail.tail | exact hs.dropL (L1 := Lv20) | exact (hs.tail).dropL (L1 := Lv20)) (by first | exact hs | exact hs.tail | exact hs.tail.tail | exact hs.dropL (L1 := Lv20) | exact (hs.tail).dropL (L1 := Lv20)) ?_
        refine WL.append Try.underlying22 Try.underlying22 ty5 rfl (by decide) rfl rfl (OwnSl.mk (b := b18) (xs := []) (k := 0) rfl) (hs.swap) (hy.stepE hs hO) (Cells1.u8s _) (by first | omega | (simp only [List.length_append, List.length_cons, List.length_nil]; omega)) rfl (fun v20 Lv20 w hv20 hs => ?_)
        obtain ⟨xa, xc, rfl⟩ := hv20.form
        replace hs := hs.front Lv20
        refine WL.nil ?_
        refine ⟨rfl, ?_⟩
        refine AL.val 8 rfl (by kernel_rfl) rfl (fun w hs => run_build rfl ((bld_rb hd xa _ xc (s.last + 1) _))) ?_
        refine AL.one 10 (by kernel_rfl) rfl (by first | exact hs | exact hs.tail | exact hs.tail.tail | exact hs.dropL (L1 := Lv20) | exact (hs.tail).dropL (L1 := Lv20)) (by first | exact hs | exact hs.tail | exact hs.tail.tail | exact hs.dropL (L1 := Lv20) | exact (hs.tail).dropL (L1 := Lv20)) ?_
        refine WL.storeAll ty76 rfl rfl ((rbC_len hd)) (rbC_cells1 rfl) hs (by first | rfl | assumption) (fun w hs => ?_)
        refine WL.nil ?_
        refine ⟨rfl, ?_⟩
        refine AL.end (by kernel_rfl) (by first | exact hs | exact hs.tail | exact hs.tail.tail | exact hs.dropL (L1 := Lv20) | exact (hs.tail).dropL (L1 := Lv20)) (by first | exact hs | exact hs.tail | exact hs.tail.tail | exact hs.dropL (L1 := Lv20) | exact (hs.tail).dropL (L1 := Lv20)) ?_
        have hv : OwnSl 5 1 (.slice xa (0 + y.length) xc) y.length (u8s y) Lv20 := by have h := hv20; rw [Nat.zero_add, List.nil_append] at h; rw [Nat.zero_add]; exact h
        have hrb : ∀ {X : List (Nat × Obj)}, (∀ p ∈ Lv20, p ∈ X) → RbB X (d, .slice xa (0 + y.length) xc, s.last + 1) b := fun {X} h => ⟨hbd.symm, by rw [hbe], Lv20, by rw [hbe]; exact hv, h⟩
        replace hs := (hs.perm (List.Perm.cons _ (List.perm_append_comm (l₁ := Lv20) (l₂ := _ :: _ :: Lv)))).swap
        refine CW.seq ?_
        refine CW.reg ?_
        refine WL.val rfl (run_move) ?_
        refine WL.val rfl (run_loadN ty27 rfl hdl hs.a0) ?_
        refine WL.enter rfl (run_call en80 rfl rfl) (hpl (hlat (Step.dropR (L1 := _ :: Lv) (Step.tail (Step.tail hs))))) ?_
        rintro e w ⟨rfl, hq⟩
        refine ⟨_, rfl, ?_⟩
        replace hs := hs.callE hq
        refine WL.val rfl (run_move) ?_
        refine WL.val rfl (run_extract rfl rfl) ?_
        refine WL.val rfl (run_extract rfl rfl) ?_
        refine WL.val rfl (run_assign) ?_
        refine WL.val rfl (run_assign) ?_
        refine WL.nil ?_
        subst hae
        subst hLe
        refine CW.seq <| CW.seq ?_
        refine CW.reg ?_
        refine WL.val rfl (run_move) ?_
        refine WL.nil ?_
        refine CW.cond rfl (fun h => ?_) (fun h => ?_)
        · refine CW.seq ?_
          refine CW.quietT (l1 := [_, _, _, _, _, _, _]) (l2 := [_]) 7 rfl mixedP rfl (by kernel_rfl) hs ?_
          refine QL.val rfl (fun w hs => run_move) ?_
          refine QL.val rfl (fun w hs => run_nilCheck rfl) ?_
          refine QL.val rfl (fun w hs => run_field (o' := 3) Try.underlying70 rfl ty68 rfl rfl rfl) ?_
          refine QL.val rfl (fun w hs => run_load1 ty68 rfl ((Step.tail (Step.tail hs)).c0 (v := .slice (some ⟨bv, 0, none⟩) s.X.length c) rfl)) ?_
          refine QL.val rfl (fun w hs => run_move) ?_
          refine QL.val rfl (fun w hs => run_loadN ty76 rfl (rbC_len hd) hs.a1) ?_
          refine QL.val rfl (fun w hs => run_ixSlN Try.underlying68 ty76 rfl rfl (by omega)) ?_
          refine QL.nil (fun w hs => ?_)
          refine WL.storeN ty76 rfl rfl ((rbC_len hd)) (rbC_cells1 rfl) (hs.front [_, _, _]) (by first | (simp; done) | omega | (simp only [List.length_append, List.length_replicate, List.length_cons, List.length_nil, List.length_set]; omega) | (simp [Ent.cells, u8s]; done) | exact Nat.le_of_ble_eq_true rfl) (fun w hs => ?_)
          refine WL.nil ?_
          replace hs := Step.blkEq (rows_set o.len (by omega) hd more) hs
          refine CW.ret ?_
          refine fin_ret0 rfl ?_
          have e := ins_there (b := b) ok.sorted (by rw [hbd, hf]; rfl)
          rw [hbd] at e
          refine ⟨_, Lv20, rfl, ⟨.slice (some ⟨bv, 0, none⟩) s.X.length c, _, T.set (posX d s.X) (d, .slice xa (0 + y.length) xc, s.last + 1), rfl, ?_, ?_⟩, Step.append_comm (L1 := Lv20) (L2 := [_, _]) (Step.tail (Step.tail (Step.append_comm (L1 := [_, _]) (L2 := _ :: _ :: Lv20) (hs.front [_, _, _]))))⟩
          · simp only [e, List.length_set]
            have hT' : ∀ t ∈ T.set (posX d s.X) (d, Value.slice xa (0 + y.length) xc, s.last + 1), t.1.length = 32 := fun t ht => by
              rcases List.mem_or_eq_of_mem_set ht with h | rfl
              · exact o.len t h
              · exact hd
            refine ⟨by rw [rowsT_len hT', List.length_set, hTl], .inr ⟨bv, c, more, rfl, rfl, ?_⟩⟩
            rw [List.length_append, rowsT_len hT', List.length_set, ← rowsT_len o.len, ← List.length_append]; exact hcl
          · simp only [e]
            exact (o.view.mono fun p hp => List.mem_append_right _ hp).set (hrb fun p hp => List.mem_append_left _ hp) _
        · cases h
    · refine WL.alloc ty76 rfl hs (fun b6 w hs => ?_)
      refine WL.nil ?_
      refine ⟨rfl, ?_⟩
      refine AL.one 1 (by kernel_rfl) rfl (by first | exact hs | exact hs.tail | exact hs.tail.tail | exact hs.dropL (L1 := Lv20) | exact (hs.tail).dropL (L1 := Lv20)) (by first | exact hs | exact hs.tail | exact hs.tail.tail | exact hs.dropL (L1 := Lv20) | exact (hs.tail).dropL (L1 := Lv20)) ?_
      refine WL.buildSlice (cs := []) Try.underlying22 ty5 rfl (by decide) rfl (by rfl) rfl hs (fun b18 w hs => ?_)
      refine WL.nil ?_
      refine ⟨rfl, ?_⟩
      refine AL.one 3 (by kernel_rfl) rfl (by first | exact hs | exact hs.tail | exact hs.tail.tail | exact hs.dropL (L1 := Lv20) | exact (hs.tail).dropL (L1 := Lv20)) (by first | exact hs | exact hs.tail | exact hs.tail.tail | exact hs.dropL (L1 := Lv20) | exact (hs.tail).dropL (L1 := Lv20)) ?_
      refine WL.append Try.underlying22 Try.underlying22 ty5 rfl (by decide) rfl rfl (OwnSl.mk (b := b18) (xs := []) (k := 0) rfl) (hs) (hy.stepE hs hO) (Cells1.u8s _) (by first | omega | (simp only [List.length_append, List.length_cons, List.length_nil]; omega)) rfl (fun v20 Lv20 w hv20 hs => ?_)
      obtain ⟨xa, xc, rfl⟩ := hv20.form
      replace hs := hs.front Lv20
      refine WL.nil ?_
      refine ⟨rfl, ?_⟩
      refine AL.val 8 rfl (by kernel_rfl) rfl (fun w hs => run_build rfl ((bld_rb hd xa _ xc (s.last + 1) _))) ?_
      refine AL.one 10 (by kernel_rfl) rfl (by first | exact hs | exact hs.tail | exact hs.tail.tail | exact hs.dropL (L1 := Lv20) | exact (hs.tail).dropL (L1 := Lv20)) (by first | exact hs | exact hs.tail | exact hs.tail.tail | exact hs.dropL (L1 := Lv20) | exact (hs.tail).dropL (L1 := Lv20)) ?_
      refine WL.storeAll ty76 rfl rfl ((rbC_len hd)) (rbC_cells1 rfl) hs (by first | rfl | assumption) (fun w hs => ?_)
      refine WL.nil ?_
      refine ⟨rfl, ?_⟩
      refine AL.end (by kernel_rfl) (by first | exact hs | exact hs.tail | exact hs.tail.tail | exact hs.dropL (L1 := Lv20) | exact (hs.tail).dropL (L1 := Lv20)) (by first | exact hs | exact hs.tail | exact hs.tail.tail | exact hs.dropL (L1 := Lv20) | exact (hs.tail).dropL (L1 := Lv20)) ?_
      have hv : OwnSl 5 1 (.slice xa (0 + y.length) xc) y.length (u8s y) Lv20 := by have h := hv20; rw [Nat.zero_add, List.nil_append] at h; rw [Nat.zero_add]; exact h
      have hrb : ∀ {X : List (Nat × Obj)}, (∀ p ∈ Lv20, p ∈ X) → RbB X (d, .slice xa (0 + y.length) xc, s.last + 1) b := fun {X} h => ⟨hbd.symm, by rw [hbe], Lv20, by rw [hbe]; exact hv, h⟩
      replace hs := (hs.perm (List.Perm.cons _ (List.perm_append_comm (l₁ := Lv20) (l₂ := _ :: _ :: Lv)))).swap
      refine CW.seq ?_
      refine CW.reg ?_
      refine WL.val rfl (run_move) ?_
      refine WL.val rfl (run_loadN ty27 rfl hdl hs.a0) ?_
      refine WL.enter rfl (run_call en80 rfl rfl) (hpl (hlat (Step.dropR (L1 := _ :: Lv) (Step.tail (Step.tail hs))))) ?_
      rintro e w ⟨rfl, hq⟩
      refine ⟨_, rfl, ?_⟩
      replace hs := hs.callE hq
      refine WL.val rfl (run_move) ?_
      refine WL.val rfl (run_extract rfl rfl) ?_
      refine WL.val rfl (run_extract rfl rfl) ?_
      refine WL.val rfl (run_assign) ?_
      refine WL.val rfl (run_assign) ?_
      refine WL.nil ?_
      subst hae
      subst hLe
      refine CW.seq <| CW.seq ?_
      refine CW.reg ?_
      refine WL.val rfl (run_move) ?_
      refine WL.nil ?_
      refine CW.cond rfl (fun h => ?_) (fun h => ?_)
      · refine CW.seq ?_
        refine CW.quietT (l1 := [_, _, _, _, _, _, _]) (l2 := [_]) 7 rfl mixedP rfl (by kernel_rfl) hs ?_
        refine QL.val rfl (fun w hs => run_move) ?_
        refine QL.val rfl (fun w hs => run_nilCheck rfl) ?_
        refine QL.val rfl (fun w hs => run_field (o' := 3) Try.underlying70 rfl ty68 rfl rfl rfl) ?_
        refine QL.val rfl (fun w hs => run_load1 ty68 rfl ((Step.tail (Step.tail hs)).c0 (v := .slice (some ⟨bv, 0, none⟩) s.X.length c) rfl)) ?_
        refine QL.val rfl (fun w hs => run_move) ?_
        refine QL.val rfl (fun w hs => run_loadN ty76 rfl (rbC_len hd) hs.a1) ?_
        refine QL.val rfl (fun w hs => run_ixSlN Try.underlying68 ty76 rfl rfl (by omega)) ?_
        refine QL.nil (fun w hs => ?_)
        refine WL.storeN ty76 rfl rfl ((rbC_len hd)) (rbC_cells1 rfl) (hs.front [_, _, _]) (by first | (simp; done) | omega | (simp only [List.length_append, List.length_replicate, List.length_cons, List.length_nil, List.length_set]; omega) | (simp [Ent.cells, u8s]; done) | exact Nat.le_of_ble_eq_true rfl) (fun w hs => ?_)
        refine WL.nil ?_
        replace hs := Step.blkEq (rows_set o.len (by omega) hd more) hs
        refine CW.ret ?_
        refine fin_ret0 rfl ?_
        have e := ins_there (b := b) ok.sorted (by rw [hbd, hf]; rfl)
        rw [hbd] at e
        refine ⟨_, Lv20, rfl, ⟨.slice (some ⟨bv, 0, none⟩) s.X.length c, _, T.set (posX d s.X) (d, .slice xa (0 + y.length) xc, s.last + 1), rfl, ?_, ?_⟩, Step.append_comm (L1 := Lv20) (L2 := [_, _]) (Step.tail (Step.tail (Step.append_comm (L1 := [_, _]) (L2 := _ :: _ :: Lv20) (hs.front [_, _, _]))))⟩
        · simp only [e, List.length_set]
          have hT' : ∀ t ∈ T.set (posX d s.X) (d, Value.slice xa (0 + y.length) xc, s.last + 1), t.1.length = 32 := fun t ht => by
            rcases List.mem_or_eq_of_mem_set ht with h | rfl
            · exact o.len t h
            · exact hd
          refine ⟨by rw [rowsT_len hT', List.length_set, hTl], .inr ⟨bv, c, more, rfl, rfl, ?_⟩⟩
          rw [List.length_append, rowsT_len hT', List.length_set, ← rowsT_len o.len, ← List.length_append]; exact hcl
        · simp only [e]
          exact (o.view.mono fun p hp => List.mem_append_right _ hp).set (hrb fun p hp => List.mem_append_left _ hp) _
      · cases h
  | none =>
    rw [hf] at hpl
    have e := ins_new (b := b) ok.sorted (by rw [hbd]; exact hf)
    rw [hbd] at e
    refine calls (n := 63) Try.func83 rfl rfl rfl ?_
    refine CW.seq ?_
    refine CW.reg ?_
    refine WL.box (cs := u8s d) rfl rfl rfl hs (fun b4 w hs => ?_)
    refine WL.nil ?_
    refine CW.seq ?_
    refine CW.reg ?_
    refine WL.val rfl (run_move) ?_
    refine WL.val rfl (run_nilCheck rfl) ?_
    refine WL.val rfl (run_field (o' := 2) Try.underlying70 rfl ty3 rfl rfl rfl) ?_
    refine WL.val rfl (run_load1 ty3 rfl (hs.c1 (v := .int .i64 (s.last : Nat)) rfl)) ?_
    refine WL.val rfl (run_add (c := ((s.last + 1 : Nat) : Int)) rfl rfl (by omega) (by omega)) ?_
    refine WL.val rfl (run_nilCheck rfl) ?_
    refine WL.val rfl (run_field (o' := 2) Try.underlying70 rfl ty3 rfl rfl rfl) ?_
    refine WL.store1_1 ty3 rfl rfl (rfl) hs (by first | (simp; done) | omega | (simp only [List.length_append, List.length_replicate, List.length_cons, List.length_nil, List.length_set]; omega) | (simp [Ent.cells, u8s]; done) | exact Nat.le_of_ble_eq_true rfl) (fun w hs => ?_)
    refine WL.nil ?_
    replace hs : Step S ((b4, blk 27 (u8s d)) :: (br, blk 70 (rsC s.k s.cap (s.last + 1) (.slice a s.X.length c) s.gets s.puts)) :: Lv) w0 w := hs
    refine CW.seq ?_
    refine CW.any (A := fun w => Step S ((b4, blk 27 (u8s d)) :: (br, blk 70 (rsC s.k s.cap (s.last + 1) (.slice a s.X.length c) s.gets s.puts)) :: Lv) w0 w) (C := fun w => Step S ((b4, blk 27 (u8s d)) :: (br, blk 70 (rsC s.k s.cap (s.last + 1) (.slice a s.X.length c) s.gets s.puts)) :: Lv) w0 w) 1000000 11 mixedP rfl ?_
    replace hs := hs.drew
    refine AL.val 0 rfl (by kernel_rfl) rfl (fun w hs => run_loadN ty27 rfl hdl hs.a0) ?_
    refine AL.val 2 rfl (by kernel_rfl) rfl (fun w hs => run_move) ?_
    refine AL.val 4 rfl (by kernel_rfl) rfl (fun w hs => run_move) ?_
    refine AL.val 5 rfl (by kernel_rfl) rfl (fun w hs => run_nilCheck rfl) ?_
    refine AL.val 6 rfl (by kernel_rfl) rfl (fun w hs => run_field (o' := 2) Try.underlying70 rfl ty3 rfl rfl rfl) ?_
    refine AL.val 7 rfl (by kernel_rfl) rfl (fun w hs => run_load1 ty3 rfl (hs.c1 (v := .int .i64 (s.last + 1 : Nat)) rfl)) ?_
    refine AL.two 1 9 (by kernel_rfl) rfl rfl (by first | exact hs | exact hs.tail | exact hs.tail.tail | exact hs.dropL (L1 := Lv20) | exact (hs.tail).dropL (L1 := Lv20)) (by first | exact hs | exact hs.tail | exact hs.tail.tail | exact hs.dropL (L1 := Lv20) | exact (hs.tail).dropL (L1 := Lv20)) ?_ ?_
    · refine WL.buildSlice (cs := []) Try.underlying22 ty5 rfl (by decide) rfl (by rfl) rfl hs (fun b18 w hs => ?_)
      refine WL.nil ?_
      refine ⟨rfl, ?_⟩
      refine AL.two 3 9 (by kernel_rfl) rfl rfl (by first | exact hs | exact hs.tail | exact hs.tail.tail | exact hs.dropL (L1 := Lv20) | exact (hs.tail).dropL (L1 := Lv20)) (by first | exact hs | exact hs.tail | exact hs.tail.tail | exact hs.dropL (L1 := Lv20) | exact (hs.tail).dropL (L1 := Lv20)) ?_ ?_
      · refine WL.append Try.underlying22 Try.underlying22 ty5 rfl (by decide) rfl rfl (OwnSl.mk (b := b18) (xs := []) (k := 0) rfl) ((by first | exact hs | exact hs.swap)) (hy.stepE hs hO) (Cells1.u8s _) (by first | omega | (simp only [List.length_append, List.length_cons, List.length_nil]; omega)) rfl (fun v20 Lv20 w hv20 hs => ?_)
        obtain ⟨xa, xc, rfl⟩ := hv20.form
        refine WL.nil ?_
        refine ⟨rfl, ?_⟩
        refine AL.val 8 rfl (by kernel_rfl) rfl (fun w hs => run_build rfl ((bld_rb hd xa _ xc (s.last + 1) _))) ?_
        refine AL.one 9 (by kernel_rfl) rfl (by first | exact hs | exact hs.tail | exact hs.tail.tail | exact hs.dropL (L1 := Lv20) | exact (hs.tail).dropL (L1 := Lv20)) (by first | exact hs | exact hs.tail | exact hs.tail.tail | exact hs.dropL (L1 := Lv20) | exact (hs.tail).dropL (L1 := Lv20)) ?_
        refine WL.alloc ty76 rfl hs (fun b6 w hs => ?_)
        refine WL.nil ?_
        refine ⟨rfl, ?_⟩
        refine AL.one 10 (by kernel_rfl) rfl (by first | exact hs | exact hs.tail | exact hs.tail.tail | exact hs.dropL (L1 := Lv20) | exact (hs.tail).dropL (L1 := Lv20)) (by first | exact hs | exact hs.tail | exact hs.tail.tail | exact hs.dropL (L1 := Lv20) | exact (hs.tail).dropL (L1 := Lv20)) ?_
        refine WL.storeAll ty76 rfl rfl ((rbC_len hd)) (rbC_cells1 rfl) hs (by first | rfl | assumption) (fun w hs => ?_)
        refine WL.nil ?_
        refine ⟨rfl, ?_⟩
        refine AL.end (by kernel_rfl) (by first | exact hs | exact hs.tail | exact hs.tail.tail | exact hs.dropL (L1 := Lv20) | exact (hs.tail).dropL (L1 := Lv20)) (by first | exact hs | exact hs.tail | exact hs.tail.tail | exact hs.dropL (L1 := Lv20) | exact (hs.tail).dropL (L1 := Lv20)) ?_
        have hv : OwnSl 5 1 (.slice xa (0 + y.length) xc) y.length (u8s y) Lv20 := by have h := hv20; rw [Nat.zero_add, List.nil_append] at h; rw [Nat.zero_add]; exact h
        have hrb : ∀ {X : List (Nat × Obj)}, (∀ p ∈ Lv20, p ∈ X) → RbB X (d, .slice xa (0 + y.length) xc, s.last + 1) b := fun {X} h => ⟨hbd.symm, by rw [hbe], Lv20, by rw [hbe]; exact hv, h⟩
        replace hs := (hs.perm (List.Perm.cons _ (List.perm_append_comm (l₁ := Lv20) (l₂ := _ :: _ :: Lv)))).swap
        refine CW.seq ?_
        refine CW.reg ?_
        refine WL.val rfl (run_move) ?_
        refine WL.val rfl (run_loadN ty27 rfl hdl hs.a0) ?_
        refine WL.enter rfl (run_call en80 rfl rfl) (hpl (hlat (Step.dropR (L1 := _ :: Lv) (Step.tail (Step.tail hs))))) ?_
        rintro e w ⟨rfl, hq⟩
        refine ⟨_, rfl, ?_⟩
        replace hs := hs.callE hq
        refine WL.val rfl (run_move) ?_
        refine WL.val rfl (run_extract rfl rfl) ?_
        refine WL.val rfl (run_extract rfl rfl) ?_
        refine WL.val rfl (run_assign) ?_
        refine WL.val rfl (run_assign) ?_
        refine WL.nil ?_
        refine CW.seq <| CW.seq ?_
        refine CW.reg ?_
        refine WL.val rfl (run_move) ?_
        refine WL.nil ?_
        refine CW.cond rfl (fun h => ?_) (fun h => ?_)
        · cases h
        repeat (first | refine CW.seq ?_ | refine CW.skip ?_)
        refine CW.reg ?_
        refine WL.val rfl (run_assign) ?_
        refine WL.nil ?_
        have hca : Cells1 (rowsT ((T.take (posX d s.X)).drop 0)) := rowsT_cells1 fun t ht => o.view.one t (List.mem_of_mem_take (List.mem_of_mem_drop ht))
        have hcb : Cells1 (rowsT ((T.take s.X.length).drop (posX d s.X))) := rowsT_cells1 fun t ht => o.view.one t (List.mem_of_mem_take (List.mem_of_mem_drop ht))
        refine CW.seq ?_
        refine CW.reg ?_
        refine WL.val rfl (run_move) ?_
        refine WL.val rfl (run_move) ?_
        refine WL.val rfl (run_nilCheck rfl) ?_
        refine WL.val rfl (run_field (o' := 3) Try.underlying70 rfl ty68 rfl rfl rfl) ?_
        refine WL.val rfl (run_load1 ty68 rfl ((Step.tail (Step.tail hs)).c0 (v := .slice a s.X.length c) rfl)) ?_
        refine WL.val rfl (run_move) ?_
        refine WL.val rfl (run_cut (lo := 0) (hi := posX d s.X) (hlat (Step.dropR (L1 := _ :: Lv) (Step.tail (Step.tail hs)))) rfl rfl rfl (Nat.zero_le _) hple) ?_
        refine WL.append Try.underlying68 Try.underlying68 ty76 rfl (by decide) rfl rfl (OwnSl.nil _ _) (hs) (cut_sl (hlat (Step.dropR (L1 := _ :: Lv) (Step.tail (Step.tail hs)))) (Nat.zero_le _) hple) (hca) (by first | omega | (simp only [List.length_append, List.length_cons, List.length_nil]; omega)) rfl (fun v47 Lv47 w hv47 hs => ?_)
        refine WL.val rfl (run_assign) ?_
        refine WL.nil ?_
        have hobt := hv47.form
        obtain ⟨va, vc, rfl⟩ := hobt
        have hx : (rbC (d, Value.slice xa (0 + y.length) xc, s.last + 1)).length = 34 := rbC_len hd
        refine CW.seq ?_
        refine CW.reg ?_
        refine WL.val rfl (run_move) ?_
        refine WL.val rfl (run_loadN ty76 rfl hx (Step.dropL (L1 := Lv47) hs).a1) ?_
        refine WL.buildSlice (cs := rbC (d, Value.slice xa (0 + y.length) xc, s.last + 1)) Try.underlying68 ty76 rfl (by decide) rfl (filled1 hx rfl) rfl hs (fun b50 w hs => ?_)
        have hsl : Sl w 34 (.slice (some ⟨b50, 0, none⟩) 1 1) 1 (rbC (d, Value.slice xa (0 + y.length) xc, s.last + 1)) := .own1 hs (by rw [hx])
        refine WL.append Try.underlying68 Try.underlying68 ty76 rfl (by decide) rfl rfl (hv47) (hs.perm List.perm_middle.symm) (hsl) (rbC_cells1 rfl) (by first | omega | (simp only [List.length_append, List.length_cons, List.length_nil]; omega)) rfl (fun v51 Lv51 w hv51 hs => ?_)
        refine WL.val rfl (run_assign) ?_
        refine WL.nil ?_
        have hobt := hv51.form
        obtain ⟨ua, uc, rfl⟩ := hobt
        have ho3 : ROpen br ⟨s.k, s.cap, s.last + 1, s.gets, s.puts, s.X⟩ D _ w a c Lv T := hlat (Step.dropR (L1 := _ :: Lv) (Step.tail (Step.tail (Step.tail (Step.dropL (L1 := Lv51) hs)))))
        refine CW.reg ?_
        refine WL.val rfl (run_move) ?_
        refine WL.val rfl (run_move) ?_
        refine WL.val rfl (run_move) ?_
        refine WL.val rfl (run_nilCheck rfl) ?_
        refine WL.val rfl (run_field (o' := 3) Try.underlying70 rfl ty68 rfl rfl rfl) ?_
        refine WL.val rfl (run_load1 ty68 rfl ((Step.tail (Step.tail (Step.tail (Step.dropL (L1 := Lv51) hs)))).c0 (v := .slice a s.X.length c) rfl)) ?_
        refine WL.val rfl (run_move) ?_
        refine WL.val rfl (run_cut (lo := posX d s.X) (hi := s.X.length) ho3 rfl rfl rfl hple (Nat.le_refl _)) ?_
        refine WL.append Try.underlying68 Try.underlying68 ty76 rfl (by decide) rfl rfl (hv51) (hs) (cut_sl ho3 hple (Nat.le_refl _)) (hcb) (by first | omega | (simp only [List.length_append, List.length_cons, List.length_nil]; omega)) rfl (fun v60 Lv60 w hv60 hs => ?_)
        replace hs := Step.front [_, _, _] (Step.append_comm (L1 := Lv60) hs)
        refine WL.val rfl (run_nilCheck rfl) ?_
        refine WL.val rfl (run_field (o' := 3) Try.underlying70 rfl ty68 rfl rfl rfl) ?_
        refine WL.store1 ty68 rfl rfl (hv60.one) (hs) (by first | (simp; done) | omega | (simp only [List.length_append, List.length_replicate, List.length_cons, List.length_nil, List.length_set]; omega) | (simp [Ent.cells, u8s]; done) | exact Nat.le_of_ble_eq_true rfl) (fun w hs => ?_)
        refine WL.nil ?_
        refine fin_end0 rfl ?_
        have hcnt : 0 + (posX d s.X - 0) + 1 + (s.X.length - posX d s.X) = (insX b s.X).length := by
          rw [e, List.length_append, List.length_cons, List.length_take, List.length_drop, Nat.min_eq_left hple]; omega
        have hrows : [] ++ rowsT ((T.take (posX d s.X)).drop 0) ++ rbC (d, Value.slice xa (0 + y.length) xc, s.last + 1) ++ rowsT ((T.take s.X.length).drop (posX d s.X)) = rowsT (T.take (posX d s.X) ++ (d, Value.slice xa (0 + y.length) xc, s.last + 1) :: T.drop (posX d s.X)) := by
          rw [List.drop_zero, ← hTl, List.take_length, List.nil_append]; simp [rowsT]
        rw [hcnt, hrows] at hv60
        have hs2 : Step S ((br, blk 70 (rsC s.k s.cap (s.last + 1) v60 s.gets s.puts)) :: _ :: _ :: _ :: ((Lv ++ Lv20) ++ Lv60)) w0 w := hs
        have hs3 := Step.tail (Step.tail (Step.tail (Step.append_comm (L1 := [_]) (L2 := _ :: _ :: _ :: ((Lv ++ Lv20) ++ Lv60)) hs2)))
        have hs4 := Step.dropL (L1 := Lv) (Step.perm hs3 (List.Perm.of_eq ((List.append_assoc (Lv ++ Lv20) Lv60 [_]).trans (List.append_assoc Lv Lv20 (Lv60 ++ [_])))))
        have hs5 := Step.perm (Step.append_comm (L1 := Lv20) hs4) ((List.perm_append_comm (l₁ := Lv60) (l₂ := [_])).append_right Lv20)
        refine ⟨_, Lv20, rfl, ⟨v60, Lv60, T.take (posX d s.X) ++ (d, Value.slice xa (0 + y.length) xc, s.last + 1) :: T.drop (posX d s.X), rfl, hv60, ?_⟩, hs5⟩
        simp only [e]
        have hvm := o.view.mono (D' := Lv20 ++ D) fun p hp => List.mem_append_right _ hp
        exact (hvm.take _).append (.cons (hrb fun p hp => List.mem_append_left _ hp) (hvm.drop _))
      · refine WL.alloc ty76 rfl hs (fun b6 w hs => ?_)
        refine WL.nil ?_
        refine ⟨rfl, ?_⟩
        refine AL.one 3 (by kernel_rfl) rfl (by first | exact hs | exact hs.tail | exact hs.tail.tail | exact hs.dropL (L1 := Lv20) | exact (hs.tail).dropL (L1 := Lv20)) (by first | exact hs | exact hs.tail | exact hs.tail.tail | exact hs.dropL (L1 := Lv20) | exact (hs.tail).dropL (L1 := Lv20)) ?_
        refine WL.append Try.underlying22 Try.underlying22 ty5 rfl (by decide) rfl rfl (OwnSl.mk (b := b18) (xs := []) (k := 0) rfl) (hs.swap) (hy.stepE hs hO) (Cells1.u8s _) (by first | omega | (simp only [List.length_append, List.length_cons, List.length_nil]; omega)) rfl (fun v20 Lv20 w hv20 hs => ?_)
        obtain ⟨xa, xc, rfl⟩ := hv20.form
        replace hs := hs.front Lv20
        refine WL.nil ?_
        refine ⟨rfl, ?_⟩
        refine AL.val 8 rfl (by kernel_rfl) rfl (fun w hs => run_build rfl ((bld_rb hd xa _ xc (s.last + 1) _))) ?_
        refine AL.one 10 (by kernel_rfl) rfl (by first | exact hs | exact hs.tail | exact hs.tail.tail | exact hs.dropL (L1 := Lv20) | exact (hs.tail).dropL (L1 := Lv20)) (by first | exact hs | exact hs.tail | exact hs.tail.tail | exact hs.dropL (L1 := Lv20) | exact (hs.tail).dropL (L1 := Lv20)) ?_
        refine WL.storeAll ty76 rfl rfl ((rbC_len hd)) (rbC_cells1 rfl) hs (by first | rfl | assumption) (fun w hs => ?_)
        refine WL.nil ?_
        refine ⟨rfl, ?_⟩
        refine AL.end (by kernel_rfl) (by first | exact hs | exact hs.tail | exact hs.tail.tail | exact hs.dropL (L1 := Lv20) | exact (hs.tail).dropL (L1 := Lv20)) (by first | exact hs | exact hs.tail | exact hs.tail.tail | exact hs.dropL (L1 := Lv20) | exact (hs.tail).dropL (L1 := Lv20)) ?_
        have hv : OwnSl 5 1 (.slice xa (0 + y.length) xc) y.length (u8s y) Lv20 := by have h := hv20; rw [Nat.zero_add, List.nil_append] at h; rw [Nat.zero_add]; exact h
        have hrb : ∀ {X : List (Nat × Obj)}, (∀ p ∈ Lv20, p ∈ X) → RbB X (d, .slice xa (0 + y.length) xc, s.last + 1) b := fun {X} h => ⟨hbd.symm, by rw [hbe], Lv20, by rw [hbe]; exact hv, h⟩
        replace hs := (hs.perm (List.Perm.cons _ (List.perm_append_comm (l₁ := Lv20) (l₂ := _ :: _ :: Lv)))).swap
        refine CW.seq ?_
        refine CW.reg ?_
        refine WL.val rfl (run_move) ?_
        refine WL.val rfl (run_loadN ty27 rfl hdl hs.a0) ?_
        refine WL.enter rfl (run_call en80 rfl rfl) (hpl (hlat (Step.dropR (L1 := _ :: Lv) (Step.tail (Step.tail hs))))) ?_
        rintro e w ⟨rfl, hq⟩
        refine ⟨_, rfl, ?_⟩
        replace hs := hs.callE hq
        refine WL.val rfl (run_move) ?_
        refine WL.val rfl (run_extract rfl rfl) ?_
        refine WL.val rfl (run_extract rfl rfl) ?_
        refine WL.val rfl (run_assign) ?_
        refine WL.val rfl (run_assign) ?_
        refine WL.nil ?_
        refine CW.seq <| CW.seq ?_
        refine CW.reg ?_
        refine WL.val rfl (run_move) ?_
        refine WL.nil ?_
        refine CW.cond rfl (fun h => ?_) (fun h => ?_)
        · cases h
        repeat (first | refine CW.seq ?_ | refine CW.skip ?_)
        refine CW.reg ?_
        refine WL.val rfl (run_assign) ?_
        refine WL.nil ?_
        have hca : Cells1 (rowsT ((T.take (posX d s.X)).drop 0)) := rowsT_cells1 fun t ht => o.view.one t (List.mem_of_mem_take (List.mem_of_mem_drop ht))
        have hcb : Cells1 (rowsT ((T.take s.X.length).drop (posX d s.X))) := rowsT_cells1 fun t ht => o.view.one t (List.mem_of_mem_take (List.mem_of_mem_drop ht))
        refine CW.seq ?_
        refine CW.reg ?_
        refine WL.val rfl (run_move) ?_
        refine WL.val rfl (run_move) ?_
        refine WL.val rfl (run_nilCheck rfl) ?_
        refine WL.val rfl (run_field (o' := 3) Try.underlying70 rfl ty68 rfl rfl rfl) ?_
        refine WL.val rfl (run_load1 ty68 rfl ((Step.tail (Step.tail hs)).c0 (v := .slice a s.X.length c) rfl)) ?_
        refine WL.val rfl (run_move) ?_
        refine WL.val rfl (run_cut (lo := 0) (hi := posX d s.X) (hlat (Step.dropR (L1 := _ :: Lv) (Step.tail (Step.tail hs)))) rfl rfl rfl (Nat.zero_le _) hple) ?_
        refine WL.append Try.underlying68 Try.underlying68 ty76 rfl (by decide) rfl rfl (OwnSl.nil _ _) (hs) (cut_sl (hlat (Step.dropR (L1 := _ :: Lv) (Step.tail (Step.tail hs)))) (Nat.zero_le _) hple) (hca) (by first | omega | (simp only [List.length_append, List.length_cons, List.length_nil]; omega)) rfl (fun v47 Lv47 w hv47 hs => ?_)
        refine WL.val rfl (run_assign) ?_
        refine WL.nil ?_
        have hobt := hv47.form
        obtain ⟨va, vc, rfl⟩ := hobt
        have hx : (rbC (d, Value.slice xa (0 + y.length) xc, s.last + 1)).length = 34 := rbC_len hd
        refine CW.seq ?_
        refine CW.reg ?_
        refine WL.val rfl (run_move) ?_
        refine WL.val rfl (run_loadN ty76 rfl hx (Step.dropL (L1 := Lv47) hs).a1) ?_
        refine WL.buildSlice (cs := rbC (d, Value.slice xa (0 + y.length) xc, s.last + 1)) Try.underlying68 ty76 rfl (by decide) rfl (filled1 hx rfl) rfl hs (fun b50 w hs => ?_)
        have hsl : Sl w 34 (.slice (some ⟨b50, 0, none⟩) 1 1) 1 (rbC (d, Value.slice xa (0 + y.length) xc, s.last + 1)) := .own1 hs (by rw [hx])
        refine WL.append Try.underlying68 Try.underlying68 ty76 rfl (by decide) rfl rfl (hv47) (hs.perm List.perm_middle.symm) (hsl) (rbC_cells1 rfl) (by first | omega | (simp only [List.length_append, List.length_cons, List.length_nil]; omega)) rfl (fun v51 Lv51 w hv51 hs => ?_)
        refine WL.val rfl (run_assign) ?_
        refine WL.nil ?_
        have hobt := hv51.form
        obtain ⟨ua, uc, rfl⟩ := hobt
        have ho3 : ROpen br ⟨s.k, s.cap, s.last + 1, s.gets, s.puts, s.X⟩ D _ w a c Lv T := hlat (Step.dropR (L1 := _ :: Lv) (Step.tail (Step.tail (Step.tail (Step.dropL (L1 := Lv51) hs)))))
        refine CW.reg ?_
        refine WL.val rfl (run_move) ?_
        refine WL.val rfl (run_move) ?_
        refine WL.val rfl (run_move) ?_
        refine WL.val rfl (run_nilCheck rfl) ?_
        refine WL.val rfl (run_field (o' := 3) Try.underlying70 rfl ty68 rfl rfl rfl) ?_
        refine WL.val rfl (run_load1 ty68 rfl ((Step.tail (Step.tail (Step.tail (Step.dropL (L1 := Lv51) hs)))).c0 (v := .slice a s.X.length c) rfl)) ?_
        refine WL.val rfl (run_move) ?_
        refine WL.val rfl (run_cut (lo := posX d s.X) (hi := s.X.length) ho3 rfl rfl rfl hple (Nat.le_refl _)) ?_
        refine WL.append Try.underlying68 Try.underlying68 ty76 rfl (by decide) rfl rfl (hv51) (hs) (cut_sl ho3 hple (Nat.le_refl _)) (hcb) (by first | omega | (simp only [List.length_append, List.length_cons, List.length_nil]; omega)) rfl (fun v60 Lv60 w hv60 hs => ?_)
        replace hs := Step.front [_, _, _] (Step.append_comm (L1 := Lv60) hs)
        refine WL.val rfl (run_nilCheck rfl) ?_
        refine WL.val rfl (run_field (o' := 3) Try.underlying70 rfl ty68 rfl rfl rfl) ?_
        refine WL.store1 ty68 rfl rfl (hv60.one) (hs) (by first | (simp; done) | omega | (simp only [List.length_append, List.length_replicate, List.length_cons, List.length_nil, List.length_set]; omega) | (simp [Ent.cells, u8s]; done) | exact Nat.le_of_ble_eq_true rfl) (fun w hs => ?_)
        refine WL.nil ?_
        refine fin_end0 rfl ?_
        have hcnt : 0 + (posX d s.X - 0) + 1 + (s.X.length - posX d s.X) = (insX b s.X).length := by
          rw [e, List.length_append, List.length_cons, List.length_take, List.length_drop, Nat.min_eq_left hple]; omega
        have hrows : [] ++ rowsT ((T.take (posX d s.X)).drop 0) ++ rbC (d, Value.slice xa (0 + y.length) xc, s.last + 1) ++ rowsT ((T.take s.X.length).drop (posX d s.X)) = rowsT (T.take (posX d s.X) ++ (d, Value.slice xa (0 + y.length) xc, s.last + 1) :: T.drop (posX d s.X)) := by
          rw [List.drop_zero, ← hTl, List.take_length, List.nil_append]; simp [rowsT]
        rw [hcnt, hrows] at hv60
        have hs2 : Step S ((br, blk 70 (rsC s.k s.cap (s.last + 1) v60 s.gets s.puts)) :: _ :: _ :: _ :: ((Lv ++ Lv20) ++ Lv60)) w0 w := hs
        have hs3 := Step.tail (Step.tail (Step.tail (Step.append_comm (L1 := [_]) (L2 := _ :: _ :: _ :: ((Lv ++ Lv20) ++ Lv60)) hs2)))
        have hs4 := Step.dropL (L1 := Lv) (Step.perm hs3 (List.Perm.of_eq ((List.append_assoc (Lv ++ Lv20) Lv60 [_]).trans (List.append_assoc Lv Lv20 (Lv60 ++ [_])))))
        have hs5 := Step.perm (Step.append_comm (L1 := Lv20) hs4) ((List.perm_append_comm (l₁ := Lv60) (l₂ := [_])).append_right Lv20)
        refine ⟨_, Lv20, rfl, ⟨v60, Lv60, T.take (posX d s.X) ++ (d, Value.slice xa (0 + y.length) xc, s.last + 1) :: T.drop (posX d s.X), rfl, hv60, ?_⟩, hs5⟩
        simp only [e]
        have hvm := o.view.mono (D' := Lv20 ++ D) fun p hp => List.mem_append_right _ hp
        exact (hvm.take _).append (.cons (hrb fun p hp => List.mem_append_left _ hp) (hvm.drop _))
    · refine WL.alloc ty76 rfl hs (fun b6 w hs => ?_)
      refine WL.nil ?_
      refine ⟨rfl, ?_⟩
      refine AL.one 1 (by kernel_rfl) rfl (by first | exact hs | exact hs.tail | exact hs.tail.tail | exact hs.dropL (L1 := Lv20) | exact (hs.tail).dropL (L1 := Lv20)) (by first | exact hs | exact hs.tail | exact hs.tail.tail | exact hs.dropL (L1 := Lv20) | exact (hs.tail).dropL (L1 := Lv20)) ?_
      refine WL.buildSlice (cs := []) Try.underlying22 ty5 rfl (by decide) rfl (by rfl) rfl hs (fun b18 w hs => ?_)
      refine WL.nil ?_
      refine ⟨rfl, ?_⟩
      refine AL.one 3 (by kernel_rfl) rfl (by first | exact hs | exact hs.tail | exact hs.tail.tail | exact hs.dropL (L1 := Lv20) | exact (hs.tail).dropL (L1 := Lv20)) (by first | exact hs | exact hs.tail | exact hs.tail.tail | exact hs.dropL (L1 := Lv20) | exact (hs.tail).dropL (L1 := Lv20)) ?_
      refine WL.append Try.underlying22 Try.underlying22 ty5 rfl (by decide) rfl rfl (OwnSl.mk (b := b18) (xs := []) (k := 0) rfl) (hs) (hy.stepE hs hO) (Cells1.u8s _) (by first | omega | (simp only [List.length_append, List.length_cons, List.length_nil]; omega)) rfl (fun v20 Lv20 w hv20 hs => ?_)
      obtain ⟨xa, xc, rfl⟩ := hv20.form
      replace hs := hs.front Lv20
      refine WL.nil ?_
      refine ⟨rfl, ?_⟩
      refine AL.val 8 rfl (by kernel_rfl) rfl (fun w hs => run_build rfl ((bld_rb hd xa _ xc (s.last + 1) _))) ?_
      refine AL.one 10 (by kernel_rfl) rfl (by first | exact hs | exact hs.tail | exact hs.tail.tail | exact hs.dropL (L1 := Lv20) | exact (hs.tail).dropL (L1 := Lv20)) (by first | exact hs | exact hs.tail | exact hs.tail.tail | exact hs.dropL (L1 := Lv20) | exact (hs.tail).dropL (L1 := Lv20)) ?_
      refine WL.storeAll ty76 rfl rfl ((rbC_len hd)) (rbC_cells1 rfl) hs (by first | rfl | assumption) (fun w hs => ?_)
      refine WL.nil ?_
      refine ⟨rfl, ?_⟩
      refine AL.end (by kernel_rfl) (by first | exact hs | exact hs.tail | exact hs.tail.tail | exact hs.dropL (L1 := Lv20) | exact (hs.tail).dropL (L1 := Lv20)) (by first | exact hs | exact hs.tail | exact hs.tail.tail | exact hs.dropL (L1 := Lv20) | exact (hs.tail).dropL (L1 := Lv20)) ?_
      have hv : OwnSl 5 1 (.slice xa (0 + y.length) xc) y.length (u8s y) Lv20 := by have h := hv20; rw [Nat.zero_add, List.nil_append] at h; rw [Nat.zero_add]; exact h
      have hrb : ∀ {X : List (Nat × Obj)}, (∀ p ∈ Lv20, p ∈ X) → RbB X (d, .slice xa (0 + y.length) xc, s.last + 1) b := fun {X} h => ⟨hbd.symm, by rw [hbe], Lv20, by rw [hbe]; exact hv, h⟩
      replace hs := (hs.perm (List.Perm.cons _ (List.perm_append_comm (l₁ := Lv20) (l₂ := _ :: _ :: Lv)))).swap
      refine CW.seq ?_
      refine CW.reg ?_
      refine WL.val rfl (run_move) ?_
      refine WL.val rfl (run_loadN ty27 rfl hdl hs.a0) ?_
      refine WL.enter rfl (run_call en80 rfl rfl) (hpl (hlat (Step.dropR (L1 := _ :: Lv) (Step.tail (Step.tail hs))))) ?_
      rintro e w ⟨rfl, hq⟩
      refine ⟨_, rfl, ?_⟩
      replace hs := hs.callE hq
      refine WL.val rfl (run_move) ?_
      refine WL.val rfl (run_extract rfl rfl) ?_
      refine WL.val rfl (run_extract rfl rfl) ?_
      refine WL.val rfl (run_assign) ?_
      refine WL.val rfl (run_assign) ?_
      refine WL.nil ?_
      refine CW.seq <| CW.seq ?_
      refine CW.reg ?_
      refine WL.val rfl (run_move) ?_
      refine WL.nil ?_
      refine CW.cond rfl (fun h => ?_) (fun h => ?_)
      · cases h
      repeat (first | refine CW.seq ?_ | refine CW.skip ?_)
      refine CW.reg ?_
      refine WL.val rfl (run_assign) ?_
      refine WL.nil ?_
      have hca : Cells1 (rowsT ((T.take (posX d s.X)).drop 0)) := rowsT_cells1 fun t ht => o.view.one t (List.mem_of_mem_take (List.mem_of_mem_drop ht))
      have hcb : Cells1 (rowsT ((T.take s.X.length).drop (posX d s.X))) := rowsT_cells1 fun t ht => o.view.one t (List.mem_of_mem_take (List.mem_of_mem_drop ht))
      refine CW.seq ?_
      refine CW.reg ?_
      refine WL.val rfl (run_move) ?_
      refine WL.val rfl (run_move) ?_
      refine WL.val rfl (run_nilCheck rfl) ?_
      refine WL.val rfl (run_field (o' := 3) Try.underlying70 rfl ty68 rfl rfl rfl) ?_
      refine WL.val rfl (run_load1 ty68 rfl ((Step.tail (Step.tail hs)).c0 (v := .slice a s.X.length c) rfl)) ?_
      refine WL.val rfl (run_move) ?_
      refine WL.val rfl (run_cut (lo := 0) (hi := posX d s.X) (hlat (Step.dropR (L1 := _ :: Lv) (Step.tail (Step.tail hs)))) rfl rfl rfl (Nat.zero_le _) hple) ?_
      refine WL.append Try.underlying68 Try.underlying68 ty76 rfl (by decide) rfl rfl (OwnSl.nil _ _) (hs) (cut_sl (hlat (Step.dropR (L1 := _ :: Lv) (Step.tail (Step.tail hs)))) (Nat.zero_le _) hple) (hca) (by first | omega | (simp only [List.length_append, List.length_cons, List.length_nil]; omega)) rfl (fun v47 Lv47 w hv47 hs => ?_)
      refine WL.val rfl (run_assign) ?_
      refine WL.nil ?_
      have hobt := hv47.form
      obtain ⟨va, vc, rfl⟩ := hobt
      have hx : (rbC (d, Value.slice xa (0 + y.length) xc, s.last + 1)).length = 34 := rbC_len hd
      refine CW.seq ?_
      refine CW.reg ?_
      refine WL.val rfl (run_move) ?_
      refine WL.val rfl (run_loadN ty76 rfl hx (Step.dropL (L1 := Lv47) hs).a1) ?_
      refine WL.buildSlice (cs := rbC (d, Value.slice xa (0 + y.length) xc, s.last + 1)) Try.underlying68 ty76 rfl (by decide) rfl (filled1 hx rfl) rfl hs (fun b50 w hs => ?_)
      have hsl : Sl w 34 (.slice (some ⟨b50, 0, none⟩) 1 1) 1 (rbC (d, Value.slice xa (0 + y.length) xc, s.last + 1)) := .own1 hs (by rw [hx])
      refine WL.append Try.underlying68 Try.underlying68 ty76 rfl (by decide) rfl rfl (hv47) (hs.perm List.perm_middle.symm) (hsl) (rbC_cells1 rfl) (by first | omega | (simp only [List.length_append, List.length_cons, List.length_nil]; omega)) rfl (fun v51 Lv51 w hv51 hs => ?_)
      refine WL.val rfl (run_assign) ?_
      refine WL.nil ?_
      have hobt := hv51.form
      obtain ⟨ua, uc, rfl⟩ := hobt
      have ho3 : ROpen br ⟨s.k, s.cap, s.last + 1, s.gets, s.puts, s.X⟩ D _ w a c Lv T := hlat (Step.dropR (L1 := _ :: Lv) (Step.tail (Step.tail (Step.tail (Step.dropL (L1 := Lv51) hs)))))
      refine CW.reg ?_
      refine WL.val rfl (run_move) ?_
      refine WL.val rfl (run_move) ?_
      refine WL.val rfl (run_move) ?_
      refine WL.val rfl (run_nilCheck rfl) ?_
      refine WL.val rfl (run_field (o' := 3) Try.underlying70 rfl ty68 rfl rfl rfl) ?_
      refine WL.val rfl (run_load1 ty68 rfl ((Step.tail (Step.tail (Step.tail (Step.dropL (L1 := Lv51) hs)))).c0 (v := .slice a s.X.length c) rfl)) ?_
      refine WL.val rfl (run_move) ?_
      refine WL.val rfl (run_cut (lo := posX d s.X) (hi := s.X.length) ho3 rfl rfl rfl hple (Nat.le_refl _)) ?_
      refine WL.append Try.underlying68 Try.underlying68 ty76 rfl (by decide) rfl rfl (hv51) (hs) (cut_sl ho3 hple (Nat.le_refl _)) (hcb) (by first | omega | (simp only [List.length_append, List.length_cons, List.length_nil]; omega)) rfl (fun v60 Lv60 w hv60 hs => ?_)
      replace hs := Step.front [_, _, _] (Step.append_comm (L1 := Lv60) hs)
      refine WL.val rfl (run_nilCheck rfl) ?_
      refine WL.val rfl (run_field (o' := 3) Try.underlying70 rfl ty68 rfl rfl rfl) ?_
      refine WL.store1 ty68 rfl rfl (hv60.one) (hs) (by first | (simp; done) | omega | (simp only [List.length_append, List.length_replicate, List.length_cons, List.length_nil, List.length_set]; omega) | (simp [Ent.cells, u8s]; done) | exact Nat.le_of_ble_eq_true rfl) (fun w hs => ?_)
      refine WL.nil ?_
      refine fin_end0 rfl ?_
      have hcnt : 0 + (posX d s.X - 0) + 1 + (s.X.length - posX d s.X) = (insX b s.X).length := by
        rw [e, List.length_append, List.length_cons, List.length_take, List.length_drop, Nat.min_eq_left hple]; omega
      have hrows : [] ++ rowsT ((T.take (posX d s.X)).drop 0) ++ rbC (d, Value.slice xa (0 + y.length) xc, s.last + 1) ++ rowsT ((T.take s.X.length).drop (posX d s.X)) = rowsT (T.take (posX d s.X) ++ (d, Value.slice xa (0 + y.length) xc, s.last + 1) :: T.drop (posX d s.X)) := by
        rw [List.drop_zero, ← hTl, List.take_length, List.nil_append]; simp [rowsT]
      rw [hcnt, hrows] at hv60
      have hs2 : Step S ((br, blk 70 (rsC s.k s.cap (s.last + 1) v60 s.gets s.puts)) :: _ :: _ :: _ :: ((Lv ++ Lv20) ++ Lv60)) w0 w := hs
      have hs3 := Step.tail (Step.tail (Step.tail (Step.append_comm (L1 := [_]) (L2 := _ :: _ :: _ :: ((Lv ++ Lv20) ++ Lv60)) hs2)))
      have hs4 := Step.dropL (L1 := Lv) (Step.perm hs3 (List.Perm.of_eq ((List.append_assoc (Lv ++ Lv20) Lv60 [_]).trans (List.append_assoc Lv Lv20 (Lv60 ++ [_])))))
      have hs5 := Step.perm (Step.append_comm (L1 := Lv20) hs4) ((List.perm_append_comm (l₁ := Lv60) (l₂ := [_])).append_right Lv20)
      refine ⟨_, Lv20, rfl, ⟨v60, Lv60, T.take (posX d s.X) ++ (d, Value.slice xa (0 + y.length) xc, s.last + 1) :: T.drop (posX d s.X), rfl, hv60, ?_⟩, hs5⟩
      simp only [e]
      have hvm := o.view.mono (D' := Lv20 ++ D) fun p hp => List.mem_append_right _ hp
      exact (hvm.take _).append (.cons (hrb fun p hp => List.mem_append_left _ hp) (hvm.drop _))
end
end Go.Gx
/-! RS7 -/
namespace Go.Gx
open Go.Proofs
set_option linter.unusedVariables false
set_option linter.unusedSimpArgs false
set_option maxRecDepth 100000
attribute [local irreducible] shaL cutD frontL
section
variable {br : Nat} {s : AS} {D R : List (Nat × Obj)} {w0 : World} {d y : List UInt8} {v : Value} {n : Nat}
theorem rlimit_abs (hR : RRep br s D R) (ok : s.Ok) (hw : Lives (R ++ D) w0) (k : Int) : Calls Try.prog 52 #[.pointer (some ⟨br, 0, none⟩), .int .i64 k] w0 fun e w' => ∃ R', e = .returned (.int .i64 ((s.limit k).1 : Nat)) ∧ RRep br (s.limit k).2 D R' ∧ Step (R.map (·.1)) R' w0 w' := by
  have hobt := hR.open ok hw
  obtain ⟨a, c, Lv, T, o⟩ := hobt
  have hs : Step (R.map (·.1)) ((br, blk 70 (rsC s.k s.cap s.last (.slice a s.X.length c) s.gets s.puts)) :: Lv) w0 w0 := by have h := hw.left; rw [← o.eqR]; exact h
  unfold AS.limit
  by_cases hk : 0 ≤ k ∧ k ≤ 67108864
  · rw [if_pos hk]
    have hobt : ∃ n : Nat, k = n := ⟨k.toNat, by omega⟩
    obtain ⟨k, rfl⟩ := hobt
    refine calls (n := 15) Try.func52 rfl rfl rfl ?_
    refine CW.seq ?_
    refine CW.reg ?_
    refine WL.val rfl (run_assign) ?_
    refine WL.nil ?_
    refine CW.seq <| CW.seq ?_
    refine CW.reg ?_
    refine WL.val rfl (run_move) ?_
    refine WL.val rfl (run_bF (run_lss rfl rfl) (by omega)) ?_
    refine WL.val rfl (run_move) ?_
    refine WL.yes rfl rfl rfl ?_; refine WL.val rfl (run_move) ?_
    refine WL.yes rfl rfl rfl ?_
    refine WL.val rfl (run_bF (run_gtr rfl rfl) (by omega)) ?_
    refine WL.val rfl (run_pickF rfl) ?_
    refine WL.nil ?_
    refine CW.cond rfl (fun h => ?_) (fun h => ?_)
    · cases h
    repeat (first | refine CW.seq ?_ | refine CW.skip ?_)
    refine CW.reg ?_
    refine WL.val rfl (run_move) ?_
    refine WL.val rfl (run_move) ?_
    refine WL.val rfl (run_nilCheck rfl) ?_
    refine WL.val rfl (run_field (o' := 1) Try.underlying70 rfl ty3 rfl rfl rfl) ?_
    refine WL.store1 ty3 rfl rfl (rfl) hs (by first | (simp; done) | omega | (simp only [List.length_append, List.length_replicate, List.length_cons, List.length_nil, List.length_set]; omega) | (simp [Ent.cells, u8s]; done) | exact Nat.le_of_ble_eq_true rfl) (fun w hs => ?_)
    refine WL.nil ?_
    refine CW.seq ?_
    refine CW.reg ?_
    refine WL.val rfl (run_assign) ?_
    refine WL.nil ?_
    refine CW.ret ?_
    refine fin_ret1 rfl ?_
    exact ⟨_, rfl, RRep.head o s.k k s.last s.gets s.puts, hs⟩
  · rw [if_neg hk]
    have hP := RRep.head o s.k s.cap s.last s.gets s.puts
    by_cases h1 : k < 0
    · refine calls (n := 15) Try.func52 rfl rfl rfl ?_
      refine CW.seq ?_
      refine CW.reg ?_
      refine WL.val rfl (run_assign) ?_
      refine WL.nil ?_
      refine CW.seq <| CW.seq ?_
      refine CW.reg ?_
      refine WL.val rfl (run_move) ?_
      refine WL.val rfl (run_bT (run_lss rfl rfl) (by exact h1)) ?_
      refine WL.val rfl (run_move) ?_
      refine WL.no rfl rfl rfl (.inl rfl) ?_
      refine WL.no rfl rfl rfl (.inl rfl) ?_
      refine WL.val rfl (run_pickT rfl) ?_
      refine WL.nil ?_
      refine CW.cond rfl (fun h => ?_) (fun h => ?_)
      · refine CW.seq ?_
        refine CW.reg ?_
        refine WL.val rfl (run_assign) ?_
        refine WL.nil ?_
        refine CW.ret ?_
        refine fin_ret1 rfl ?_
        exact ⟨_, rfl, hP, hs⟩
      · cases h
    · have h2 : k > 67108864 := by omega
      refine calls (n := 15) Try.func52 rfl rfl rfl ?_
      refine CW.seq ?_
      refine CW.reg ?_
      refine WL.val rfl (run_assign) ?_
      refine WL.nil ?_
      refine CW.seq <| CW.seq ?_
      refine CW.reg ?_
      refine WL.val rfl (run_move) ?_
      refine WL.val rfl (run_bF (run_lss rfl rfl) (by exact h1)) ?_
      refine WL.val rfl (run_move) ?_
      refine WL.yes rfl rfl rfl ?_; refine WL.val rfl (run_move) ?_
      refine WL.yes rfl rfl rfl ?_
      refine WL.val rfl (run_bT (run_gtr rfl rfl) (by exact h2)) ?_
      refine WL.val rfl (run_pickF rfl) ?_
      refine WL.nil ?_
      refine CW.cond rfl (fun h => ?_) (fun h => ?_)
      · refine CW.seq ?_
        refine CW.reg ?_
        refine WL.val rfl (run_assign) ?_
        refine WL.nil ?_
        refine CW.ret ?_
        refine fin_ret1 rfl ?_
        exact ⟨_, rfl, hP, hs⟩
      · cases h
/-- room: as lay has it. -/
theorem room_ins (h : SortedX s.X) : usedX (delX d s.X) + (y.length + 32) = usedX (insX ⟨d, y, s.last + 1⟩ s.X) := by
  rw [usedX_perm (insX_perm ⟨d, y, s.last + 1⟩ h), usedX_cons]
  simp only
  omega
theorem rplant_abs (hR : RRep br s D R) (ok : s.Ok) (hfew : s.Few n) (hn : n < 1099511627776) (hw : Lives (R ++ D) w0) (hd : d.length = 32) (hy : Sl w0 1 v y.length (u8s y)) (hO : OutE v y (R.map (·.1))) (hsy : y.length < 1099511627776) :
    Calls Try.prog 66 #[.pointer (some ⟨br, 0, none⟩), .agg (u8s d).toArray, v] w0 fun e w' => ∃ R' D', e = .returned (.int .i64 ((s.plant d y).1 : Nat)) ∧ RRep br (s.plant d y).2 (D' ++ D) R' ∧ Step (R.map (·.1)) (R' ++ D') w0 w' := by
  have hobt := hR.open ok hw
  obtain ⟨a, c, Lv, T, o⟩ := hobt
  have hs : Step (R.map (·.1)) ((br, blk 70 (rsC s.k s.cap s.last (.slice a s.X.length c) s.gets s.puts)) :: Lv) w0 w0 := by have h := hw.left; rw [← o.eqR]; exact h
  have hdl : (u8s d).length = 32 := by rw [u8s, List.length_map, hd]
  have hP := RRep.head o s.k s.cap s.last s.gets s.puts
  have hfit := fun w => refFits_spec (d := d) (k := (s.k : Nat)) hd w
  have hobt := Sl.form hy
  obtain ⟨av, cv, rfl⟩ := hobt
  have hroom := fun {w a c Lv T R} (h : ROpen br s D R w a c Lv T) => room_spec (d := d) (n := y.length) h ok hd hsy
  simp only [room_ins (y := y) ok.sorted] at hroom
  have hlat : ∀ {w : World}, Step (R.map (·.1)) ((br, blk 70 (rsC s.k s.cap s.last (.slice a s.X.length c) s.gets s.puts)) :: Lv) w0 w → ROpen br s D ((br, blk 70 (rsC s.k s.cap s.last (.slice a s.X.length c) s.gets s.puts)) :: Lv) w a c Lv T := fun h => o.later s.k s.cap s.last s.gets s.puts h
  have hlay := fun {w} (h : Lives (((br, blk 70 (rsC s.k s.cap s.last (.slice a s.X.length c) s.gets s.puts)) :: Lv) ++ D) w) (h2 : Sl w 1 (.slice av y.length cv) y.length (u8s y)) => rlay_abs (d := d) hP ok hfew hn h hd h2 (by have h3 := hO; rw [o.eqR] at h3; exact h3) hsy
  have hkept : ∀ {w : World}, Step (R.map (·.1)) ((br, blk 70 (rsC s.k s.cap s.last (.slice a s.X.length c) s.gets s.puts)) :: Lv) w0 w → Lives (((br, blk 70 (rsC s.k s.cap s.last (.slice a s.X.length c) s.gets s.puts)) :: Lv) ++ D) w := fun h => Lives.kept hw h
  unfold AS.plant
  by_cases hf : fitsL d s.k = false
  · rw [if_pos hf]
    simp only [hf] at hfit
    refine calls (n := 27) Try.func66 rfl rfl rfl ?_
    refine CW.seq ?_
    refine CW.reg ?_
    refine WL.box (cs := u8s d) rfl rfl rfl hs (fun b4 w hs => ?_)
    refine WL.val rfl (run_assign) ?_
    refine WL.nil ?_
    refine CW.seq <| CW.seq ?_
    refine CW.quiet mixedP (by kernel_rfl) hs ?_
    refine QL.val rfl (fun w hs => run_loadN ty27 rfl hdl hs.a0) ?_
    refine QL.val rfl (fun w hs => run_move) ?_
    refine QL.val rfl (fun w hs => run_nilCheck rfl) ?_
    refine QL.val rfl (fun w hs => run_field (o' := 0) Try.underlying70 rfl ty3 rfl rfl rfl) ?_
    refine QL.val rfl (fun w hs => run_load1 ty3 rfl (hs.c1 (v := .int .i64 (s.k : Nat)) rfl)) ?_
    refine QL.enter rfl (fun w => run_call en84 rfl rfl) (fun w hs => hfit _) ?_
    refine QL.val rfl (fun w hs => run_not rfl) ?_
    refine QL.nil (fun w hs => ?_)
    refine CW.cond rfl (fun h => ?_) (fun h => ?_)
    · refine CW.seq ?_
      refine CW.reg ?_
      refine WL.val rfl (run_assign) ?_
      refine WL.nil ?_
      refine CW.ret ?_
      refine fin_ret1 rfl ?_
      exact ⟨_, [], rfl, hP, by rw [List.append_nil]; exact hs.tail⟩
    · cases h
  · rw [if_neg hf]
    replace hf : fitsL d s.k = true := by simpa using hf
    simp only [hf] at hfit
    by_cases hlong : 1048576 < y.length
    · rw [if_pos hlong]
      refine calls (n := 27) Try.func66 rfl rfl rfl ?_
      refine CW.seq ?_
      refine CW.reg ?_
      refine WL.box (cs := u8s d) rfl rfl rfl hs (fun b4 w hs => ?_)
      refine WL.val rfl (run_assign) ?_
      refine WL.nil ?_
      refine CW.seq <| CW.seq ?_
      refine CW.quiet mixedP (by kernel_rfl) hs ?_
      refine QL.val rfl (fun w hs => run_loadN ty27 rfl hdl hs.a0) ?_
      refine QL.val rfl (fun w hs => run_move) ?_
      refine QL.val rfl (fun w hs => run_nilCheck rfl) ?_
      refine QL.val rfl (fun w hs => run_field (o' := 0) Try.underlying70 rfl ty3 rfl rfl rfl) ?_
      refine QL.val rfl (fun w hs => run_load1 ty3 rfl (hs.c1 (v := .int .i64 (s.k : Nat)) rfl)) ?_
      refine QL.enter rfl (fun w => run_call en84 rfl rfl) (fun w hs => hfit _) ?_
      refine QL.val rfl (fun w hs => run_not rfl) ?_
      refine QL.nil (fun w hs => ?_)
      refine CW.cond rfl (fun h => ?_) (fun h => ?_)
      · cases h
      repeat (first | refine CW.seq ?_ | refine CW.skip ?_)
      refine CW.reg ?_
      refine WL.val rfl (run_move) ?_
      refine WL.val rfl (run_lenSl Try.underlying22 rfl) ?_
      refine WL.val rfl (run_bT (run_gtr rfl rfl) (by omega)) ?_
      refine WL.nil ?_
      refine CW.cond rfl (fun h => ?_) (fun h => ?_)
      · refine CW.seq ?_
        refine CW.reg ?_
        refine WL.val rfl (run_assign) ?_
        refine WL.nil ?_
        refine CW.ret ?_
        refine fin_ret1 rfl ?_
        exact ⟨_, [], rfl, hP, by rw [List.append_nil]; exact hs.tail⟩
      · cases h
    · rw [if_neg hlong]
      unfold AS.lay
      by_cases hc : usedX (insX ⟨d, y, s.last + 1⟩ s.X) ≤ s.cap
      · simp only [decide_eq_true hc] at hroom
        rw [if_pos hc]
        simp only
        refine calls (n := 27) Try.func66 rfl rfl rfl ?_
        refine CW.seq ?_
        refine CW.reg ?_
        refine WL.box (cs := u8s d) rfl rfl rfl hs (fun b4 w hs => ?_)
        refine WL.val rfl (run_assign) ?_
        refine WL.nil ?_
        refine CW.seq <| CW.seq ?_
        refine CW.quiet mixedP (by kernel_rfl) hs ?_
        refine QL.val rfl (fun w hs => run_loadN ty27 rfl hdl hs.a0) ?_
        refine QL.val rfl (fun w hs => run_move) ?_
        refine QL.val rfl (fun w hs => run_nilCheck rfl) ?_
        refine QL.val rfl (fun w hs => run_field (o' := 0) Try.underlying70 rfl ty3 rfl rfl rfl) ?_
        refine QL.val rfl (fun w hs => run_load1 ty3 rfl (hs.c1 (v := .int .i64 (s.k : Nat)) rfl)) ?_
        refine QL.enter rfl (fun w => run_call en84 rfl rfl) (fun w hs => hfit _) ?_
        refine QL.val rfl (fun w hs => run_not rfl) ?_
        refine QL.nil (fun w hs => ?_)
        refine CW.cond rfl (fun h => ?_) (fun h => ?_)
        · cases h
        repeat (first | refine CW.seq ?_ | refine CW.skip ?_)
        refine CW.reg ?_
        refine WL.val rfl (run_move) ?_
        refine WL.val rfl (run_lenSl Try.underlying22 rfl) ?_
        refine WL.val rfl (run_bF (run_gtr rfl rfl) (by omega)) ?_
        refine WL.nil ?_
        refine CW.cond rfl (fun h => ?_) (fun h => ?_)
        · cases h
        repeat (first | refine CW.seq ?_ | refine CW.skip ?_)
        refine CW.reg ?_
        refine WL.val rfl (run_move) ?_
        refine WL.val rfl (run_loadN ty27 rfl hdl hs.a0) ?_
        refine WL.val rfl (run_move) ?_
        refine WL.val rfl (run_lenSl Try.underlying22 rfl) ?_
        refine WL.enter rfl (run_call en82 rfl rfl) (hroom (hlat hs.tail)) ?_
        rintro e w ⟨rfl, hq⟩
        refine ⟨_, rfl, ?_⟩
        replace hs := hs.callE hq
        refine WL.val rfl (run_not rfl) ?_
        refine WL.nil ?_
        refine CW.cond rfl (fun h => ?_) (fun h => ?_)
        · cases h
        repeat (first | refine CW.seq ?_ | refine CW.skip ?_)
        refine CW.reg ?_
        refine WL.val rfl (run_move) ?_
        refine WL.val rfl (run_loadN ty27 rfl hdl hs.a0) ?_
        refine WL.val rfl (run_move) ?_
        refine WL.enter rfl (run_call en83 rfl rfl) (hlay (hkept hs.tail) (hy.stepE hs.tail hO)) ?_
        rintro e w ⟨R', D', rfl, hP', hq⟩
        refine ⟨_, rfl, ?_⟩
        replace hs := Step.call (L1 := _ :: Lv) (L := [_]) (Step.append_comm (L1 := [_]) hs) hq
        refine WL.nil ?_
        refine CW.seq ?_
        refine CW.reg ?_
        refine WL.val rfl (run_assign) ?_
        refine WL.nil ?_
        refine CW.ret ?_
        refine fin_ret1 rfl ?_
        exact ⟨R', D', rfl, hP', hs.dropR⟩
      · simp only [decide_eq_false hc] at hroom
        rw [if_neg hc]
        simp only
        refine calls (n := 27) Try.func66 rfl rfl rfl ?_
        refine CW.seq ?_
        refine CW.reg ?_
        refine WL.box (cs := u8s d) rfl rfl rfl hs (fun b4 w hs => ?_)
        refine WL.val rfl (run_assign) ?_
        refine WL.nil ?_
        refine CW.seq <| CW.seq ?_
        refine CW.quiet mixedP (by kernel_rfl) hs ?_
        refine QL.val rfl (fun w hs => run_loadN ty27 rfl hdl hs.a0) ?_
        refine QL.val rfl (fun w hs => run_move) ?_
        refine QL.val rfl (fun w hs => run_nilCheck rfl) ?_
        refine QL.val rfl (fun w hs => run_field (o' := 0) Try.underlying70 rfl ty3 rfl rfl rfl) ?_
        refine QL.val rfl (fun w hs => run_load1 ty3 rfl (hs.c1 (v := .int .i64 (s.k : Nat)) rfl)) ?_
        refine QL.enter rfl (fun w => run_call en84 rfl rfl) (fun w hs => hfit _) ?_
        refine QL.val rfl (fun w hs => run_not rfl) ?_
        refine QL.nil (fun w hs => ?_)
        refine CW.cond rfl (fun h => ?_) (fun h => ?_)
        · cases h
        repeat (first | refine CW.seq ?_ | refine CW.skip ?_)
        refine CW.reg ?_
        refine WL.val rfl (run_move) ?_
        refine WL.val rfl (run_lenSl Try.underlying22 rfl) ?_
        refine WL.val rfl (run_bF (run_gtr rfl rfl) (by omega)) ?_
        refine WL.nil ?_
        refine CW.cond rfl (fun h => ?_) (fun h => ?_)
        · cases h
        repeat (first | refine CW.seq ?_ | refine CW.skip ?_)
        refine CW.reg ?_
        refine WL.val rfl (run_move) ?_
        refine WL.val rfl (run_loadN ty27 rfl hdl hs.a0) ?_
        refine WL.val rfl (run_move) ?_
        refine WL.val rfl (run_lenSl Try.underlying22 rfl) ?_
        refine WL.enter rfl (run_call en82 rfl rfl) (hroom (hlat hs.tail)) ?_
        rintro e w ⟨rfl, hq⟩
        refine ⟨_, rfl, ?_⟩
        replace hs := hs.callE hq
        refine WL.val rfl (run_not rfl) ?_
        refine WL.nil ?_
        refine CW.cond rfl (fun h => ?_) (fun h => ?_)
        · refine CW.seq ?_
          refine CW.reg ?_
          refine WL.val rfl (run_assign) ?_
          refine WL.nil ?_
          refine CW.ret ?_
          refine fin_ret1 rfl ?_
          exact ⟨_, [], rfl, hP, by rw [List.append_nil]; exact hs.tail⟩
        · cases h
end
end Go.Gx
