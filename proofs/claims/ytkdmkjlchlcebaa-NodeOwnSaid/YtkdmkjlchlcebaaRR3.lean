/- The document's reading of one entry, and its Decode. -/
import Derived.Test.YtkdmkjlchlcebaaRR2
namespace Go.Gx
open Go.Proofs
set_option linter.unusedVariables false
set_option linter.unusedSimpArgs false
set_option maxRecDepth 100000

theorem fin_cellTmp {P : Program} {n : Nat} {w : World} {fn : Func} {R : Ending → World → Prop} {f : Slots} {t u : Tmp} {T : TypeId} {A : Addr} {v : Value} (hr : fn.results = #[.cell t T, .tmp u]) (hA : f t = .pointer (some A)) (hv : (loadVar T A).run P w = .ok v w) (h : R (.returned (.tuple #[v, f u])) w) : fin P n fn R .ret f [] w :=
  fun a ha => bodyPost_ret (v := .tuple #[v, f u]) (by simp [results, hr, ha.get, hA, asAddr, hv]) ha.defers h
theorem Step.mid {S : List Nat} (L1 : List (Nat × Obj)) {L2 L3 : List (Nat × Obj)} {w w' : World} (h : Step S (L1 ++ (L2 ++ L3)) w w') : Step S (L1 ++ (L3 ++ L2)) w w' := h.perm (List.Perm.append_left L1 List.perm_append_comm)

def zE : Ent := ⟨[], 0, List.replicate 32 0⟩
theorem bld_zE (w : World) : (Instr.build 48 #[]).run Try.prog w = .ok (.agg zE.cells.toArray) w := by kernel_rfl
theorem bld_nk (s : List UInt8) (k : Int) (w : World) : (Instr.build 48 #[(0, str s), (1, .int .i64 k)]).run Try.prog w = .ok (.agg (Ent.cells ⟨s, k, List.replicate 32 0⟩).toArray) w := by kernel_rfl

def OneR (b : Nat) (bv : Value) (w0 : World) : Except Int (Ent × Nat) → Ending → World → Prop
  | .ok (x, q), e, w' => e = .returned (.tuple #[.agg x.cells.toArray, .int .i64 0]) ∧ Step [b] [RRB b bv q 0] w0 w'
  | .error er, e, w' => ∃ o, e = .returned (.tuple #[.agg zE.cells.toArray, .int .i64 er]) ∧ Step [b] [(b, o)] w0 w'
theorem OneR.ok {b : Nat} {bv : Value} {w0 w' : World} {ed : Ending} {r : Except Int (Ent × Nat)} {x : Ent} {q : Nat} (hr : r = .ok (x, q)) (he : ed = .returned (.tuple #[.agg x.cells.toArray, .int .i64 0])) (hs : Step [b] [RRB b bv q 0] w0 w') : OneR b bv w0 r ed w' := by subst hr; exact ⟨he, hs⟩
theorem OneR.err {b : Nat} {bv : Value} {w0 w' : World} {ed : Ending} {r : Except Int (Ent × Nat)} {er : Int} {o : Obj} (hr : r = .error er) (he : ed = .returned (.tuple #[.agg zE.cells.toArray, .int .i64 er])) (hs : Step [b] [(b, o)] w0 w') : OneR b bv w0 r ed w' := by subst hr; exact ⟨o, he, hs⟩

theorem bytesP_err {bs : List UInt8} {p : Nat} {e : Int} (h : bytesP bs p = .error e) : e = 11 ∨ e = 12 := by
  unfold bytesP at h
  split at h
  · rename_i h1; injection h with h; subst h; exact numP_err h1
  · split at h
    · injection h with h; exact .inl h.symm
    · cases h
theorem set_dig (s : List UInt8) (k : Int) (d : List UInt8) {i : Nat} (hi : i < d.length) (hd : d.length ≤ 32) : (Ent.cells ⟨s, k, d.take i ++ List.replicate (32 - i) 0⟩).set (2 + i * 1) (.int .u8 (d[i]).toNat) = Ent.cells ⟨s, k, d.take (i + 1) ++ List.replicate (32 - (i + 1)) 0⟩ := by
  have e2 : (u8s (d.take i ++ List.replicate (32 - i) 0)).set i (.int .u8 (d[i]).toNat) = u8s (d.take (i + 1) ++ List.replicate (32 - (i + 1)) 0) := by
    unfold u8s
    rw [show (Value.int .u8 (d[i]).toNat) = (fun c : UInt8 => Value.int .u8 c.toNat) d[i] from rfl, ← List.map_set]
    congr 1
    rw [List.set_append_right _ _ (by simp; omega), List.take_succ_eq_append_getElem hi, List.append_assoc]
    congr 1
    rw [show i - (d.take i).length = 0 by simp; omega, show 32 - i = (32 - (i + 1)) + 1 by omega, List.replicate_succ]
    rfl
  have e1 : 2 + i * 1 = i + 1 + 1 := by omega
  rw [e1]
  show str s :: .int .i64 k :: _ = _
  rw [e2]
  rfl

theorem one_at {b p : Nat} {bs : List UInt8} {bv lv : Value} {l : List Ent} {r : Except Int (Ent × Nat)} (hr : entP (lastN l) bs p = r) (w0 : World) (h : RrOk w0 b bs bv p) (hpl : p ≤ bs.length) (hl : Es w0 lv l) (hlo : Outside lv [b]) : Calls Try.prog 53 #[.pointer (some ⟨b, 0, none⟩), lv] w0 (OneR b bv w0 r) := by
  have hlen := h.len
  have hs := h.own
  unfold entP at hr
  refine calls (n := 103) Try.func53 rfl rfl rfl ?_
  refine CW.seq ?_
  refine CW.reg ?_
  refine WL.alloc ty48 rfl hs (fun b4 w hs => ?_)
  refine WL.val rfl (run_assign) ?_
  refine WL.nil ?_
  replace hs : Step [b] [RRB b bv p 0, (b4, blk 48 zE.cells)] w0 w := hs.swap
  cases h1 : numP bs p with
  | error er =>
    rw [h1] at hr
    have hne : er ≠ 0 := by rcases numP_err h1 with h | h <;> omega
    refine CW.seq ?_
    refine CW.reg ?_
    refine WL.val rfl (run_move) ?_
    refine WL.enter rfl (run_call en51 rfl rfl) (readNum_at h1 _ (h.next hs) hpl) ?_
    rintro e w ⟨rfl, hq⟩
    refine ⟨_, rfl, ?_⟩
    replace hs := Step.call (L1 := [_]) hs hq
    refine WL.alloc ty73 rfl hs (fun b6 w hs => ?_)
    refine WL.storeAll ty73 rfl rfl ((rfl)) (itemV_c1 rfl) hs (by first | rfl | assumption) (fun w hs => ?_)
    refine WL.nil ?_
    refine CW.seq <| CW.seq ?_
    refine CW.reg ?_
    refine WL.val rfl (run_move) ?_
    refine WL.val rfl (run_nilCheck rfl) ?_
    refine WL.val rfl (run_field (o' := 2) Try.underlying85 rfl ty3 rfl rfl rfl) ?_
    refine WL.val rfl (run_load1 ty3 rfl (hs.c1 rfl)) ?_
    refine WL.val rfl (run_bT (run_neq rfl rfl) (by exact hne)) ?_
    refine WL.nil ?_
    replace hs := Step.front [_, _] hs
    repeat (first | refine CW.seq ?_ | refine CW.condT rfl ?_)
    refine CW.any (A := fun w => Step [b] [(b4, blk 48 zE.cells), (b6, blk 73 (itemV 1 0 (.slice none 0 0))), RRB b bv p er] w0 w) (C := fun w => Step [b] [(b4, blk 48 zE.cells), (b6, blk 73 (itemV 1 0 (.slice none 0 0))), RRB b bv p er] w0 w) 1000000 7 mixedP rfl ?_
    replace hs := hs.drew
    refine AL.val 0 rfl (by kernel_rfl) rfl (fun w hs => run_build rfl (bld_zE _)) ?_
    refine AL.val 1 rfl (by kernel_rfl) rfl (fun w hs => run_move) ?_
    refine AL.val 2 rfl (by kernel_rfl) rfl (fun w hs => run_nilCheck rfl) ?_
    refine AL.val 3 rfl (by kernel_rfl) rfl (fun w hs => run_field (o' := 2) Try.underlying85 rfl ty3 rfl rfl rfl) ?_
    refine AL.val 4 rfl (by kernel_rfl) rfl (fun w hs => run_load1 ty3 rfl (hs.c2 rfl)) ?_
    refine AL.one 5 (by kernel_rfl) rfl (hs) (hs) ?_
    refine WL.storeAll ty48 rfl rfl (rfl) (Ent.cells1 _) hs (by first | rfl | assumption) (fun w hs => ?_)
    refine WL.nil ?_
    refine ⟨rfl, ?_⟩
    refine AL.val 6 rfl (by kernel_rfl) rfl (fun w hs => run_assign) ?_
    refine AL.end (by kernel_rfl) (hs) (hs) ?_
    refine CW.ret ?_
    refine fin_cellTmp rfl rfl (run_loadVarN ty48 rfl hs.a0) ?_
    exact .err hr.symm rfl (Step.dropR (L1 := [_]) (Step.dropL (L1 := [_, _]) hs))
  | ok kp =>
    obtain ⟨k, p1⟩ := kp
    rw [h1] at hr
    have hb1 := numP_ok h1
    have hkb := numP_le h1
    simp only at hr
    refine CW.seq ?_
    refine CW.reg ?_
    refine WL.val rfl (run_move) ?_
    refine WL.enter rfl (run_call en51 rfl rfl) (readNum_at h1 _ (h.next hs) hpl) ?_
    rintro e w ⟨rfl, hq⟩
    refine ⟨_, rfl, ?_⟩
    replace hs := Step.call (L1 := [_]) hs hq
    refine WL.alloc ty73 rfl hs (fun b6 w hs => ?_)
    refine WL.storeAll ty73 rfl rfl ((rfl)) (itemV_c1 rfl) hs (by first | rfl | assumption) (fun w hs => ?_)
    refine WL.nil ?_
    refine CW.seq <| CW.seq ?_
    refine CW.reg ?_
    refine WL.val rfl (run_move) ?_
    refine WL.val rfl (run_nilCheck rfl) ?_
    refine WL.val rfl (run_field (o' := 2) Try.underlying85 rfl ty3 rfl rfl rfl) ?_
    refine WL.val rfl (run_load1 ty3 rfl (hs.c1 rfl)) ?_
    refine WL.val rfl (run_bF (run_neq rfl rfl) (by decide)) ?_
    refine WL.nil ?_
    by_cases hk : (k : Int) = 2 ∨ (k : Int) = 1
    · rw [if_pos (by omega)] at hr
      repeat (first | refine CW.seq ?_ | refine CW.skip ?_ | refine CW.condF rfl ?_)
      refine CW.reg ?_
      refine WL.val rfl (run_field (o' := 1) Try.underlying73 rfl ty3 rfl rfl rfl) ?_
      refine WL.val rfl (run_load1 ty3 rfl (hs.c0 rfl)) ?_
      refine WL.enter rfl (run_call en62 rfl rfl) (kind_spec _ _) ?_
      rintro e w ⟨rfl, hq⟩
      refine ⟨_, rfl, ?_⟩
      rw [decide_eq_true hk]
      replace hs := hs.callE hq
      refine WL.val rfl (run_not rfl) ?_
      refine WL.nil ?_
      replace hs : Step [b] [RRB b bv p1 0, (b6, blk 73 (itemV 1 k (.slice none 0 0))), (b4, blk 48 zE.cells)] w0 w := hs.swap
      cases h2 : bytesP bs p1 with
      | error er =>
        rw [h2] at hr
        have hne : er ≠ 0 := by rcases bytesP_err h2 with h | h <;> omega
        repeat (first | refine CW.seq ?_ | refine CW.skip ?_ | refine CW.condF rfl ?_)
        refine CW.reg ?_
        refine WL.val rfl (run_move) ?_
        refine WL.enter rfl (run_call en51 rfl rfl) (readBytes_at h2 (.inl rfl) _ (h.next hs) hb1.1) ?_
        rintro e w ⟨rfl, hq⟩
        refine ⟨_, rfl, ?_⟩
        replace hs := Step.call (L1 := [_]) hs hq
        refine WL.alloc ty73 rfl hs (fun b7 w hs => ?_)
        refine WL.storeAll ty73 rfl rfl ((rfl)) (itemV_c1 rfl) hs (by first | rfl | assumption) (fun w hs => ?_)
        refine WL.nil ?_
        refine CW.seq <| CW.seq ?_
        refine CW.reg ?_
        refine WL.val rfl (run_move) ?_
        refine WL.val rfl (run_nilCheck rfl) ?_
        refine WL.val rfl (run_field (o' := 2) Try.underlying85 rfl ty3 rfl rfl rfl) ?_
        refine WL.val rfl (run_load1 ty3 rfl (hs.c1 rfl)) ?_
        refine WL.val rfl (run_bT (run_neq rfl rfl) (by exact hne)) ?_
        refine WL.nil ?_
        replace hs := Step.front [_, _, _] hs
        repeat (first | refine CW.seq ?_ | refine CW.condT rfl ?_)
        refine CW.any (A := fun w => Step [b] [(b4, blk 48 zE.cells), (b7, blk 73 (itemV 5 0 (.slice none 0 0))), RRB b bv p1 er, (b6, blk 73 (itemV 1 k (.slice none 0 0)))] w0 w) (C := fun w => Step [b] [(b4, blk 48 zE.cells), (b7, blk 73 (itemV 5 0 (.slice none 0 0))), RRB b bv p1 er, (b6, blk 73 (itemV 1 k (.slice none 0 0)))] w0 w) 1000000 7 mixedP rfl ?_
        replace hs := hs.drew
        refine AL.val 0 rfl (by kernel_rfl) rfl (fun w hs => run_build rfl (bld_zE _)) ?_
        refine AL.val 1 rfl (by kernel_rfl) rfl (fun w hs => run_move) ?_
        refine AL.val 2 rfl (by kernel_rfl) rfl (fun w hs => run_nilCheck rfl) ?_
        refine AL.val 3 rfl (by kernel_rfl) rfl (fun w hs => run_field (o' := 2) Try.underlying85 rfl ty3 rfl rfl rfl) ?_
        refine AL.val 4 rfl (by kernel_rfl) rfl (fun w hs => run_load1 ty3 rfl (hs.c2 rfl)) ?_
        refine AL.one 5 (by kernel_rfl) rfl (hs) (hs) ?_
        refine WL.storeAll ty48 rfl rfl (rfl) (Ent.cells1 _) hs (by first | rfl | assumption) (fun w hs => ?_)
        refine WL.nil ?_
        refine ⟨rfl, ?_⟩
        refine AL.val 6 rfl (by kernel_rfl) rfl (fun w hs => run_assign) ?_
        refine AL.end (by kernel_rfl) (hs) (hs) ?_
        refine CW.ret ?_
        refine fin_cellTmp rfl rfl (run_loadVarN ty48 rfl hs.a0) ?_
        exact .err hr.symm rfl (Step.dropR (L1 := [_]) (Step.dropL (L1 := [_, _]) hs))
      | ok sp =>
        obtain ⟨s, p2⟩ := sp
        rw [h2] at hr
        have hb2 := bytesP_ok h2
        have hsl := bytesP_len h2
        simp only at hr
        repeat (first | refine CW.seq ?_ | refine CW.skip ?_ | refine CW.condF rfl ?_)
        refine CW.reg ?_
        refine WL.val rfl (run_move) ?_
        refine WL.enter rfl (run_call en51 rfl rfl) (readBytes_at h2 (.inl rfl) _ (h.next hs) hb1.1) ?_
        rintro e w ⟨v, Lv, rfl, hv, hq⟩
        refine ⟨_, rfl, ?_⟩
        replace hs := Step.call (L1 := [_]) hs hq
        refine WL.alloc ty73 rfl hs (fun b7 w hs => ?_)
        refine WL.storeAll ty73 rfl rfl ((rfl)) (itemV_c1 hv.one) hs (by first | rfl | assumption) (fun w hs => ?_)
        refine WL.nil ?_
        replace hs : Step [b] (RRB b bv p2 0 :: (b7, blk 73 (itemV 5 0 v)) :: (b6, blk 73 (itemV 1 k (.slice none 0 0))) :: (b4, blk 48 zE.cells) :: Lv) w0 w := Step.swap (Step.mid [_, _] (L2 := Lv) (L3 := [_, _]) hs)
        have hvs := fun (w : World) (L : List (Nat × Obj)) (hs : Step [b] (Lv ++ L) w0 w) => hv.sl hs
        refine CW.seq <| CW.seq ?_
        refine CW.reg ?_
        refine WL.val rfl (run_move) ?_
        refine WL.val rfl (run_nilCheck rfl) ?_
        refine WL.val rfl (run_field (o' := 2) Try.underlying85 rfl ty3 rfl rfl rfl) ?_
        refine WL.val rfl (run_load1 ty3 rfl (hs.c0 rfl)) ?_
        refine WL.val rfl (run_bF (run_neq rfl rfl) (by decide)) ?_
        refine WL.nil ?_
        have hnm : ∀ {b : Bool}, decide (wrongE k s (lastN l) = 0) = b → (isName s && Op.bytesLess (lastN l) s) = b := fun {b} h => by
          rw [← h]
          cases h1 : isName s <;> cases h2 : Op.bytesLess (lastN l) s <;> simp [wrongE, h1, h2, hk]
        have hls : ∀ {w : World} {L : List (Nat × Obj)}, Step [b] L w0 w → Es w lv l := fun hs => hl.step hs hlo
        by_cases hw : wrongE k s (lastN l) = 0
        · rw [if_pos hw] at hr
          repeat (first | refine CW.seq ?_ | refine CW.skip ?_ | refine CW.condF rfl ?_)
          refine CW.reg ?_
          refine WL.val rfl (run_move) ?_
          refine WL.val rfl (run_field (o' := 2) Try.underlying73 rfl ty29 rfl rfl rfl) ?_
          refine WL.val rfl (run_load1 ty29 rfl (hs.c1 rfl)) ?_
          refine WL.val rfl (run_toString Try.underlying29 Try.underlying9 Try.underlying5 rfl ((hvs _ [] (by rw [List.append_nil]; exact Step.dropL (L1 := [_, _, _, _]) hs)))) ?_
          refine WL.enter rfl (run_call en63 rfl rfl) (nameR_spec (hnm (decide_eq_true hw)) _ (hls hs) (by omega)) ?_
          rintro e w ⟨rfl, hq⟩
          refine ⟨_, rfl, ?_⟩
          replace hs := hs.callE hq
          refine WL.val rfl (run_not rfl) ?_
          refine WL.nil ?_
          cases h3 : bytesP bs p2 with
          | error er =>
            rw [h3] at hr
            have hne : er ≠ 0 := by rcases bytesP_err h3 with h | h <;> omega
            repeat (first | refine CW.seq ?_ | refine CW.skip ?_ | refine CW.condF rfl ?_)
            refine CW.reg ?_
            refine WL.val rfl (run_move) ?_
            refine WL.enter rfl (run_call en51 rfl rfl) (readBytes_at h3 (.inr rfl) _ (h.next hs) hb2.1) ?_
            rintro e w ⟨rfl, hq⟩
            refine ⟨_, rfl, ?_⟩
            replace hs := Step.call (L1 := [_]) hs hq
            refine WL.alloc ty73 rfl hs (fun b8 w hs => ?_)
            refine WL.storeAll ty73 rfl rfl ((rfl)) (itemV_c1 rfl) hs (by first | rfl | assumption) (fun w hs => ?_)
            refine WL.nil ?_
            refine CW.seq <| CW.seq ?_
            refine CW.reg ?_
            refine WL.val rfl (run_move) ?_
            refine WL.val rfl (run_nilCheck rfl) ?_
            refine WL.val rfl (run_field (o' := 2) Try.underlying85 rfl ty3 rfl rfl rfl) ?_
            refine WL.val rfl (run_load1 ty3 rfl (hs.c1 rfl)) ?_
            refine WL.val rfl (run_bT (run_neq rfl rfl) (by exact hne)) ?_
            refine WL.nil ?_
            replace hs := Step.front [_, _, _, _] hs
            repeat (first | refine CW.seq ?_ | refine CW.condT rfl ?_)
            refine CW.any (A := fun w => Step [b] ((b4, blk 48 zE.cells) :: (b8, blk 73 (itemV 4 0 (.slice none 0 0))) :: RRB b bv p2 er :: (b7, blk 73 (itemV 5 0 v)) :: (b6, blk 73 (itemV 1 k (.slice none 0 0))) :: Lv) w0 w) (C := fun w => Step [b] ((b4, blk 48 zE.cells) :: (b8, blk 73 (itemV 4 0 (.slice none 0 0))) :: RRB b bv p2 er :: (b7, blk 73 (itemV 5 0 v)) :: (b6, blk 73 (itemV 1 k (.slice none 0 0))) :: Lv) w0 w) 1000000 7 mixedP rfl ?_
            replace hs := hs.drew
            refine AL.val 0 rfl (by kernel_rfl) rfl (fun w hs => run_build rfl (bld_zE _)) ?_
            refine AL.val 1 rfl (by kernel_rfl) rfl (fun w hs => run_move) ?_
            refine AL.val 2 rfl (by kernel_rfl) rfl (fun w hs => run_nilCheck rfl) ?_
            refine AL.val 3 rfl (by kernel_rfl) rfl (fun w hs => run_field (o' := 2) Try.underlying85 rfl ty3 rfl rfl rfl) ?_
            refine AL.val 4 rfl (by kernel_rfl) rfl (fun w hs => run_load1 ty3 rfl (hs.c2 rfl)) ?_
            refine AL.one 5 (by kernel_rfl) rfl (hs) (hs) ?_
            refine WL.storeAll ty48 rfl rfl (rfl) (Ent.cells1 _) hs (by first | rfl | assumption) (fun w hs => ?_)
            refine WL.nil ?_
            refine ⟨rfl, ?_⟩
            refine AL.val 6 rfl (by kernel_rfl) rfl (fun w hs => run_assign) ?_
            refine AL.end (by kernel_rfl) (hs) (hs) ?_
            refine CW.ret ?_
            refine fin_cellTmp rfl rfl (run_loadVarN ty48 rfl hs.a0) ?_
            exact .err hr.symm rfl (Step.dropR (L1 := [_]) (Step.dropL (L1 := [_, _]) hs))
          | ok dp =>
            obtain ⟨d, p3⟩ := dp
            rw [h3] at hr
            have hb3 := bytesP_ok h3
            have hdl := bytesP_len h3
            simp only at hr
            repeat (first | refine CW.seq ?_ | refine CW.skip ?_ | refine CW.condF rfl ?_)
            refine CW.reg ?_
            refine WL.val rfl (run_move) ?_
            refine WL.enter rfl (run_call en51 rfl rfl) (readBytes_at h3 (.inr rfl) _ (h.next hs) hb2.1) ?_
            rintro e w ⟨v2, Lv2, rfl, hv2, hq⟩
            refine ⟨_, rfl, ?_⟩
            replace hs := Step.call (L1 := [_]) hs hq
            refine WL.alloc ty73 rfl hs (fun b8 w hs => ?_)
            refine WL.storeAll ty73 rfl rfl ((rfl)) (itemV_c1 hv2.one) hs (by first | rfl | assumption) (fun w hs => ?_)
            refine WL.nil ?_
            replace hs : Step [b] ((b8, blk 73 (itemV 4 0 v2)) :: (b4, blk 48 zE.cells) :: RRB b bv p3 0 :: (b7, blk 73 (itemV 5 0 v)) :: (b6, blk 73 (itemV 1 k (.slice none 0 0))) :: (Lv ++ Lv2)) w0 w := Step.swap (Step.front [_, _, _, _] (Step.mid [_, _] (L2 := Lv2) (L3 := _ :: _ :: _ :: Lv) hs))
            have hobt := hv2.form
            obtain ⟨va, vc, rfl⟩ := hobt
            have hvs2 := fun (w : World) (L1 L : List (Nat × Obj)) (hs : Step [b] (L1 ++ (Lv ++ Lv2)) w0 w) => hv2.sl (S := [b]) (L := []) (w0 := w0) (w := w) (by rw [List.append_nil]; exact hs.dropL.dropL)
            refine CW.seq <| CW.seq ?_
            refine CW.reg ?_
            refine WL.val rfl (run_move) ?_
            refine WL.val rfl (run_nilCheck rfl) ?_
            refine WL.val rfl (run_field (o' := 2) Try.underlying85 rfl ty3 rfl rfl rfl) ?_
            refine WL.val rfl (run_load1 ty3 rfl (hs.c2 rfl)) ?_
            refine WL.val rfl (run_bF (run_neq rfl rfl) (by decide)) ?_
            refine WL.nil ?_
            by_cases hd1 : 32 < d.length
            · rw [if_pos (show badD d from .inl hd1)] at hr
              repeat (first | refine CW.seq ?_ | refine CW.skip ?_ | refine CW.condF rfl ?_)
              refine CW.reg ?_
              refine WL.val rfl (run_field (o' := 2) Try.underlying73 rfl ty29 rfl rfl rfl) ?_
              refine WL.val rfl (run_load1 ty29 rfl (hs.c0 rfl)) ?_
              refine WL.val rfl (run_lenSl Try.underlying29 rfl) ?_
              refine WL.val rfl (run_bT (run_gtr rfl rfl) (by omega)) ?_
              refine WL.val rfl (run_move) ?_
              refine WL.no rfl rfl rfl (.inl rfl) ?_
              refine WL.no rfl rfl rfl (.inl rfl) ?_
              refine WL.no rfl rfl rfl (.inl rfl) ?_
              refine WL.no rfl rfl rfl (.inl rfl) ?_
              refine WL.no rfl rfl rfl (.inl rfl) ?_
              refine WL.no rfl rfl rfl (.inr rfl) ?_
              refine WL.no rfl rfl rfl (.inr rfl) ?_
              refine WL.no rfl rfl rfl (.inr rfl) ?_
              refine WL.no rfl rfl rfl (.inr rfl) ?_
              refine WL.no rfl rfl rfl (.inr rfl) ?_
              refine WL.no rfl rfl rfl (.inr rfl) ?_
              refine WL.no rfl rfl rfl (.inr rfl) ?_
              refine WL.no rfl rfl rfl (.inr rfl) ?_
              refine WL.no rfl rfl rfl (.inr rfl) ?_
              refine WL.no rfl rfl rfl (.inl rfl) ?_
              refine WL.val rfl (run_pickT rfl) ?_
              refine WL.nil ?_
              repeat (first | refine CW.seq ?_ | refine CW.condT rfl ?_)
              refine CW.reg ?_
              refine WL.val rfl (run_build rfl (bld_zE _)) ?_
              refine WL.storeAll_1 ty48 rfl rfl (by first | rfl | assumption) (by first | assumption | exact Cells1.of_all rfl | exact Ent.cells1 _) hs (by first | rfl | assumption) (fun w hs => ?_)
              refine WL.val rfl (run_assign) ?_
              refine WL.nil ?_
              refine CW.ret ?_
              refine fin_cellTmp rfl rfl (run_loadVarN ty48 rfl hs.a1) ?_
              exact .err hr.symm rfl (Step.dropR (L1 := [_]) (Step.dropL (L1 := [_, _]) hs))
            · by_cases hd2 : d.length = 0
              · rw [if_neg (show ¬ badD d from fun h => h.elim hd1 (fun h => by omega))] at hr
                repeat (first | refine CW.seq ?_ | refine CW.skip ?_ | refine CW.condF rfl ?_)
                refine CW.reg ?_
                refine WL.val rfl (run_field (o' := 2) Try.underlying73 rfl ty29 rfl rfl rfl) ?_
                refine WL.val rfl (run_load1 ty29 rfl (hs.c0 rfl)) ?_
                refine WL.val rfl (run_lenSl Try.underlying29 rfl) ?_
                refine WL.val rfl (run_bF (run_gtr rfl rfl) (by omega)) ?_
                refine WL.val rfl (run_move) ?_
                refine WL.yes rfl rfl rfl ?_
                refine WL.val rfl (run_field (o' := 2) Try.underlying73 rfl ty29 rfl rfl rfl) ?_
                refine WL.yes rfl rfl rfl ?_
                refine WL.val rfl (run_load1 ty29 rfl (hs.c0 rfl)) ?_
                refine WL.yes rfl rfl rfl ?_
                refine WL.val rfl (run_lenSl Try.underlying29 rfl) ?_
                refine WL.yes rfl rfl rfl ?_
                refine WL.val rfl (run_bF (run_gtr rfl rfl) (by omega)) ?_
                refine WL.yes rfl rfl rfl ?_
                refine WL.val rfl (run_move) ?_
                refine WL.no rfl rfl rfl (.inl rfl) ?_
                refine WL.no rfl rfl rfl (.inl rfl) ?_
                refine WL.no rfl rfl rfl (.inl rfl) ?_
                refine WL.no rfl rfl rfl (.inl rfl) ?_
                refine WL.no rfl rfl rfl (.inl rfl) ?_
                refine WL.no rfl rfl rfl (.inl rfl) ?_
                refine WL.no rfl rfl rfl (.inl rfl) ?_
                refine WL.no rfl rfl rfl (.inl rfl) ?_
                refine WL.no rfl rfl rfl (.inl rfl) ?_
                refine WL.yes rfl rfl rfl ?_
                refine WL.val rfl (run_pickF rfl) ?_
                refine WL.val rfl (run_pickF rfl) ?_
                refine WL.nil ?_
                have hd32 : d.length ≤ 32 := by omega
                have hcl : ∀ i, i ≤ d.length → (Ent.cells ⟨s, k, d.take i ++ List.replicate (32 - i) 0⟩).length = 34 := fun i hi => by simp [Ent.cells, u8s]; omega
                have hfin : (⟨s, k, d.take d.length ++ List.replicate (32 - d.length) 0⟩ : Ent) = ⟨s, k, padD d⟩ := by rw [List.take_length]; rfl
                repeat (first | refine CW.seq ?_ | refine CW.skip ?_ | refine CW.condF rfl ?_)
                refine CW.reg ?_
                refine WL.val rfl (run_field (o' := 2) Try.underlying73 rfl ty29 rfl rfl rfl) ?_
                refine WL.val rfl (run_load1 ty29 rfl (hs.c3 rfl)) ?_
                refine WL.val rfl (run_toString Try.underlying29 Try.underlying9 Try.underlying5 rfl ((hvs _ Lv2 (Step.dropL (L1 := [_, _, _, _, _]) hs)))) ?_
                refine WL.val rfl (run_field (o' := 1) Try.underlying73 rfl ty3 rfl rfl rfl) ?_
                refine WL.val rfl (run_load1 ty3 rfl (hs.c4 rfl)) ?_
                refine WL.val rfl (run_build rfl (bld_nk _ _ _)) ?_
                refine WL.alloc ty48 rfl hs (fun b9 w hs => ?_)
                refine WL.storeAll ty48 rfl rfl ((rfl)) (Ent.cells1 _) hs (by first | rfl | assumption) (fun w hs => ?_)
                refine WL.nil ?_
                refine CW.seq <| CW.seq ?_
                refine CW.reg ?_
                refine WL.val rfl (run_assign) ?_
                refine WL.nil ?_
                refine CW.block ?_
                refine CW.loop (fun m f w' => ∃ i, i ≤ d.length ∧ m = d.length - i ∧ Step [b] ((b9, blk 48 (Ent.cells ⟨s, k, d.take i ++ List.replicate (32 - i) 0⟩)) :: (b8, blk 73 (itemV 4 0 (.slice va d.length vc))) :: (b4, blk 48 zE.cells) :: RRB b bv p3 0 :: (b7, blk 73 (itemV 5 0 v)) :: (b6, blk 73 (itemV 1 k (.slice none 0 0))) :: (Lv ++ Lv2)) w0 w' ∧ Holds f [(4, .pointer (some ⟨b4, 0, none⟩)), (8, .pointer (some ⟨b8, 0, none⟩)), (9, .pointer (some ⟨b9, 0, none⟩)), (10, .int .i64 i)]) (m := d.length) ?_ ?_
                · exact ⟨0, by omega, by omega, hs, rfl, rfl, rfl, rfl, trivial⟩
                · rintro m f w ⟨i, hi, rfl, hs, hf⟩
                  have hobt := hf.chain
                  obtain ⟨g, rfl⟩ := hobt
                  have hcl1 := hcl i hi
                  refine CW.seq <| CW.seq ?_
                  refine CW.reg ?_
                  refine WL.val rfl (run_move) ?_
                  refine WL.val rfl (run_field (o' := 2) Try.underlying73 rfl ty29 rfl rfl rfl) ?_
                  refine WL.val rfl (run_load1 ty29 rfl (hs.c1 rfl)) ?_
                  refine WL.val rfl (run_lenSl Try.underlying29 rfl) ?_
                  refine WL.val rfl (run_lss rfl rfl) ?_
                  refine WL.nil ?_
                  refine CW.condP rfl (fun hlt => ?_) (fun hlt => ?_)
                  · have hlt' : i < d.length := by omega
                    have hobt := cell_u8 (i := i) (hvs2 _ [_, _, _, _, _, _] [] hs) hlt'
                    obtain ⟨bk', off', hva, hcell'⟩ := hobt
                    cases hva
                    repeat (first | refine CW.seq ?_ | refine CW.block ?_ | refine CW.skip ?_)
                    refine CW.reg ?_
                    refine WL.val rfl (run_move) ?_
                    refine WL.val rfl (run_field (o' := 2) Try.underlying73 rfl ty29 rfl rfl rfl) ?_
                    refine WL.val rfl (run_load1 ty29 rfl (hs.c1 rfl)) ?_
                    refine WL.val rfl (run_move) ?_
                    refine WL.val rfl (run_ixSlN Try.underlying29 ty5 rfl rfl (by omega)) ?_
                    refine WL.val rfl (run_load1 ty5 rfl (hcell')) ?_
                    refine WL.val rfl (run_field (o' := 2) Try.underlying48 rfl ty46 rfl rfl rfl) ?_
                    refine WL.val rfl (run_ixArrN Try.underlying46 ty5 rfl rfl (by omega)) ?_
                    refine WL.store1 ty5 rfl rfl (rfl) hs (by first | (simp; done) | omega | (simp only [List.length_append, List.length_replicate, List.length_cons, List.length_nil, List.length_set]; omega) | (simp [Ent.cells, u8s]; done) | exact Nat.le_of_ble_eq_true rfl) (fun w hs => ?_)
                    refine WL.nil ?_
                    replace hs := hs.cast (set_dig s k d hlt' hd32)
                    refine CW.reg ?_
                    refine WL.val rfl (run_move) ?_
                    refine WL.val rfl (run_add (c := ((i + 1 : Nat) : Int)) rfl rfl (by omega) (by omega)) ?_
                    refine WL.val rfl (run_assign) ?_
                    refine WL.nil ?_
                    refine (show _ ∧ _ from ⟨rfl, _, ?_, i + 1, by omega, rfl, hs, rfl, rfl, rfl, rfl, trivial⟩)
                    omega
                  · obtain rfl : i = d.length := by omega
                    rw [hfin] at hs hcl1
                    repeat (first | refine CW.seq ?_ | refine CW.exit ?_)
                    refine CW.reg ?_
                    refine WL.val rfl (run_loadN ty48 rfl (by first | rfl | assumption | (simp; done)) hs.a0) ?_
                    refine WL.storeAll_2 ty48 rfl rfl ((hcl1)) (Ent.cells1 _) hs (by first | rfl | assumption) (fun w hs => ?_)
                    refine WL.val rfl (run_assign) ?_
                    refine WL.nil ?_
                    refine CW.ret ?_
                    refine fin_cellTmp rfl rfl (run_loadVarN ty48 hcl1 hs.a2) ?_
                    exact .ok hr.symm rfl (Step.dropR (L1 := [_]) (Step.dropL (L1 := [_, _, _]) hs))
              · have hi : d.length - 1 < d.length := by omega
                have hla : d.getLast? = some d[d.length - 1] := by rw [List.getLast?_eq_getElem?, List.getElem?_eq_getElem hi]
                have hobt := cell_u8 (i := d.length - 1) (hvs2 _ [_, _, _, _, _] [] hs) hi
                obtain ⟨bk, off, rfl, hcell⟩ := hobt
                by_cases hz : d[d.length - 1] = 0
                · rw [if_pos (show badD d from .inr ⟨by omega, by rw [hla, hz]⟩)] at hr
                  repeat (first | refine CW.seq ?_ | refine CW.skip ?_ | refine CW.condF rfl ?_)
                  refine CW.reg ?_
                  refine WL.val rfl (run_field (o' := 2) Try.underlying73 rfl ty29 rfl rfl rfl) ?_
                  refine WL.val rfl (run_load1 ty29 rfl (hs.c0 rfl)) ?_
                  refine WL.val rfl (run_lenSl Try.underlying29 rfl) ?_
                  refine WL.val rfl (run_bF (run_gtr rfl rfl) (by omega)) ?_
                  refine WL.val rfl (run_move) ?_
                  refine WL.yes rfl rfl rfl ?_
                  refine WL.val rfl (run_field (o' := 2) Try.underlying73 rfl ty29 rfl rfl rfl) ?_
                  refine WL.yes rfl rfl rfl ?_
                  refine WL.val rfl (run_load1 ty29 rfl (hs.c0 rfl)) ?_
                  refine WL.yes rfl rfl rfl ?_
                  refine WL.val rfl (run_lenSl Try.underlying29 rfl) ?_
                  refine WL.yes rfl rfl rfl ?_
                  refine WL.val rfl (run_bT (run_gtr rfl rfl) (by omega)) ?_
                  refine WL.yes rfl rfl rfl ?_
                  refine WL.val rfl (run_move) ?_
                  refine WL.yes rfl rfl rfl ?_
                  refine WL.val rfl (run_field (o' := 2) Try.underlying73 rfl ty29 rfl rfl rfl) ?_
                  refine WL.yes rfl rfl rfl ?_
                  refine WL.val rfl (run_load1 ty29 rfl (hs.c0 rfl)) ?_
                  refine WL.yes rfl rfl rfl ?_
                  refine WL.val rfl (run_field (o' := 2) Try.underlying73 rfl ty29 rfl rfl rfl) ?_
                  refine WL.yes rfl rfl rfl ?_
                  refine WL.val rfl (run_load1 ty29 rfl (hs.c0 rfl)) ?_
                  refine WL.yes rfl rfl rfl ?_
                  refine WL.val rfl (run_lenSl Try.underlying29 rfl) ?_
                  refine WL.yes rfl rfl rfl ?_
                  refine WL.val rfl (run_sub (c := ((d.length - 1 : Nat) : Int)) rfl rfl (by omega) (by omega)) ?_
                  refine WL.yes rfl rfl rfl ?_
                  refine WL.val rfl (run_ixSlN Try.underlying29 ty5 rfl rfl (by omega)) ?_
                  refine WL.yes rfl rfl rfl ?_
                  refine WL.val rfl (run_load1 ty5 rfl (hcell)) ?_
                  refine WL.yes rfl rfl rfl ?_
                  refine WL.val rfl (run_bT (run_eql rfl rfl) (by rw [hz]; rfl)) ?_
                  refine WL.yes rfl rfl rfl ?_
                  refine WL.val rfl (run_pickT rfl) ?_
                  refine WL.val rfl (run_pickF rfl) ?_
                  refine WL.nil ?_
                  repeat (first | refine CW.seq ?_ | refine CW.condT rfl ?_)
                  refine CW.reg ?_
                  refine WL.val rfl (run_build rfl (bld_zE _)) ?_
                  refine WL.storeAll_1 ty48 rfl rfl (by first | rfl | assumption) (by first | assumption | exact Cells1.of_all rfl | exact Ent.cells1 _) hs (by first | rfl | assumption) (fun w hs => ?_)
                  refine WL.val rfl (run_assign) ?_
                  refine WL.nil ?_
                  refine CW.ret ?_
                  refine fin_cellTmp rfl rfl (run_loadVarN ty48 rfl hs.a1) ?_
                  exact .err hr.symm rfl (Step.dropR (L1 := [_]) (Step.dropL (L1 := [_, _]) hs))
                · have hz' : ¬ ((d[d.length - 1].toNat : Int) = 0) := fun h => hz (UInt8.toNat_inj.1 (by simpa using h))
                  rw [if_neg (show ¬ badD d from fun h => h.elim hd1 (fun h => hz (by have := h.2; rw [hla] at this; exact Option.some.inj this)))] at hr
                  repeat (first | refine CW.seq ?_ | refine CW.skip ?_ | refine CW.condF rfl ?_)
                  refine CW.reg ?_
                  refine WL.val rfl (run_field (o' := 2) Try.underlying73 rfl ty29 rfl rfl rfl) ?_
                  refine WL.val rfl (run_load1 ty29 rfl (hs.c0 rfl)) ?_
                  refine WL.val rfl (run_lenSl Try.underlying29 rfl) ?_
                  refine WL.val rfl (run_bF (run_gtr rfl rfl) (by omega)) ?_
                  refine WL.val rfl (run_move) ?_
                  refine WL.yes rfl rfl rfl ?_
                  refine WL.val rfl (run_field (o' := 2) Try.underlying73 rfl ty29 rfl rfl rfl) ?_
                  refine WL.yes rfl rfl rfl ?_
                  refine WL.val rfl (run_load1 ty29 rfl (hs.c0 rfl)) ?_
                  refine WL.yes rfl rfl rfl ?_
                  refine WL.val rfl (run_lenSl Try.underlying29 rfl) ?_
                  refine WL.yes rfl rfl rfl ?_
                  refine WL.val rfl (run_bT (run_gtr rfl rfl) (by omega)) ?_
                  refine WL.yes rfl rfl rfl ?_
                  refine WL.val rfl (run_move) ?_
                  refine WL.yes rfl rfl rfl ?_
                  refine WL.val rfl (run_field (o' := 2) Try.underlying73 rfl ty29 rfl rfl rfl) ?_
                  refine WL.yes rfl rfl rfl ?_
                  refine WL.val rfl (run_load1 ty29 rfl (hs.c0 rfl)) ?_
                  refine WL.yes rfl rfl rfl ?_
                  refine WL.val rfl (run_field (o' := 2) Try.underlying73 rfl ty29 rfl rfl rfl) ?_
                  refine WL.yes rfl rfl rfl ?_
                  refine WL.val rfl (run_load1 ty29 rfl (hs.c0 rfl)) ?_
                  refine WL.yes rfl rfl rfl ?_
                  refine WL.val rfl (run_lenSl Try.underlying29 rfl) ?_
                  refine WL.yes rfl rfl rfl ?_
                  refine WL.val rfl (run_sub (c := ((d.length - 1 : Nat) : Int)) rfl rfl (by omega) (by omega)) ?_
                  refine WL.yes rfl rfl rfl ?_
                  refine WL.val rfl (run_ixSlN Try.underlying29 ty5 rfl rfl (by omega)) ?_
                  refine WL.yes rfl rfl rfl ?_
                  refine WL.val rfl (run_load1 ty5 rfl (hcell)) ?_
                  refine WL.yes rfl rfl rfl ?_
                  refine WL.val rfl (run_bF (run_eql rfl rfl) (by exact hz')) ?_
                  refine WL.yes rfl rfl rfl ?_
                  refine WL.val rfl (run_pickT rfl) ?_
                  refine WL.val rfl (run_pickF rfl) ?_
                  refine WL.nil ?_
                  generalize hva0 : some (⟨bk, off, none⟩ : Addr) = va at hs hvs2 ⊢
                  have hd32 : d.length ≤ 32 := by omega
                  have hcl : ∀ i, i ≤ d.length → (Ent.cells ⟨s, k, d.take i ++ List.replicate (32 - i) 0⟩).length = 34 := fun i hi => by simp [Ent.cells, u8s]; omega
                  have hfin : (⟨s, k, d.take d.length ++ List.replicate (32 - d.length) 0⟩ : Ent) = ⟨s, k, padD d⟩ := by rw [List.take_length]; rfl
                  repeat (first | refine CW.seq ?_ | refine CW.skip ?_ | refine CW.condF rfl ?_)
                  refine CW.reg ?_
                  refine WL.val rfl (run_field (o' := 2) Try.underlying73 rfl ty29 rfl rfl rfl) ?_
                  refine WL.val rfl (run_load1 ty29 rfl (hs.c3 rfl)) ?_
                  refine WL.val rfl (run_toString Try.underlying29 Try.underlying9 Try.underlying5 rfl ((hvs _ Lv2 (Step.dropL (L1 := [_, _, _, _, _]) hs)))) ?_
                  refine WL.val rfl (run_field (o' := 1) Try.underlying73 rfl ty3 rfl rfl rfl) ?_
                  refine WL.val rfl (run_load1 ty3 rfl (hs.c4 rfl)) ?_
                  refine WL.val rfl (run_build rfl (bld_nk _ _ _)) ?_
                  refine WL.alloc ty48 rfl hs (fun b9 w hs => ?_)
                  refine WL.storeAll ty48 rfl rfl ((rfl)) (Ent.cells1 _) hs (by first | rfl | assumption) (fun w hs => ?_)
                  refine WL.nil ?_
                  refine CW.seq <| CW.seq ?_
                  refine CW.reg ?_
                  refine WL.val rfl (run_assign) ?_
                  refine WL.nil ?_
                  refine CW.block ?_
                  refine CW.loop (fun m f w' => ∃ i, i ≤ d.length ∧ m = d.length - i ∧ Step [b] ((b9, blk 48 (Ent.cells ⟨s, k, d.take i ++ List.replicate (32 - i) 0⟩)) :: (b8, blk 73 (itemV 4 0 (.slice va d.length vc))) :: (b4, blk 48 zE.cells) :: RRB b bv p3 0 :: (b7, blk 73 (itemV 5 0 v)) :: (b6, blk 73 (itemV 1 k (.slice none 0 0))) :: (Lv ++ Lv2)) w0 w' ∧ Holds f [(4, .pointer (some ⟨b4, 0, none⟩)), (8, .pointer (some ⟨b8, 0, none⟩)), (9, .pointer (some ⟨b9, 0, none⟩)), (10, .int .i64 i)]) (m := d.length) ?_ ?_
                  · exact ⟨0, by omega, by omega, hs, rfl, rfl, rfl, rfl, trivial⟩
                  · rintro m f w ⟨i, hi, rfl, hs, hf⟩
                    have hobt := hf.chain
                    obtain ⟨g, rfl⟩ := hobt
                    have hcl1 := hcl i hi
                    refine CW.seq <| CW.seq ?_
                    refine CW.reg ?_
                    refine WL.val rfl (run_move) ?_
                    refine WL.val rfl (run_field (o' := 2) Try.underlying73 rfl ty29 rfl rfl rfl) ?_
                    refine WL.val rfl (run_load1 ty29 rfl (hs.c1 rfl)) ?_
                    refine WL.val rfl (run_lenSl Try.underlying29 rfl) ?_
                    refine WL.val rfl (run_lss rfl rfl) ?_
                    refine WL.nil ?_
                    refine CW.condP rfl (fun hlt => ?_) (fun hlt => ?_)
                    · have hlt' : i < d.length := by omega
                      have hobt := cell_u8 (i := i) (hvs2 _ [_, _, _, _, _, _] [] hs) hlt'
                      obtain ⟨bk', off', hva, hcell'⟩ := hobt
                      cases hva
                      repeat (first | refine CW.seq ?_ | refine CW.block ?_ | refine CW.skip ?_)
                      refine CW.reg ?_
                      refine WL.val rfl (run_move) ?_
                      refine WL.val rfl (run_field (o' := 2) Try.underlying73 rfl ty29 rfl rfl rfl) ?_
                      refine WL.val rfl (run_load1 ty29 rfl (hs.c1 rfl)) ?_
                      refine WL.val rfl (run_move) ?_
                      refine WL.val rfl (run_ixSlN Try.underlying29 ty5 rfl rfl (by omega)) ?_
                      refine WL.val rfl (run_load1 ty5 rfl (hcell')) ?_
                      refine WL.val rfl (run_field (o' := 2) Try.underlying48 rfl ty46 rfl rfl rfl) ?_
                      refine WL.val rfl (run_ixArrN Try.underlying46 ty5 rfl rfl (by omega)) ?_
                      refine WL.store1 ty5 rfl rfl (rfl) hs (by first | (simp; done) | omega | (simp only [List.length_append, List.length_replicate, List.length_cons, List.length_nil, List.length_set]; omega) | (simp [Ent.cells, u8s]; done) | exact Nat.le_of_ble_eq_true rfl) (fun w hs => ?_)
                      refine WL.nil ?_
                      replace hs := hs.cast (set_dig s k d hlt' hd32)
                      refine CW.reg ?_
                      refine WL.val rfl (run_move) ?_
                      refine WL.val rfl (run_add (c := ((i + 1 : Nat) : Int)) rfl rfl (by omega) (by omega)) ?_
                      refine WL.val rfl (run_assign) ?_
                      refine WL.nil ?_
                      refine (show _ ∧ _ from ⟨rfl, _, ?_, i + 1, by omega, rfl, hs, rfl, rfl, rfl, rfl, trivial⟩)
                      omega
                    · obtain rfl : i = d.length := by omega
                      rw [hfin] at hs hcl1
                      repeat (first | refine CW.seq ?_ | refine CW.exit ?_)
                      refine CW.reg ?_
                      refine WL.val rfl (run_loadN ty48 rfl (by first | rfl | assumption | (simp; done)) hs.a0) ?_
                      refine WL.storeAll_2 ty48 rfl rfl ((hcl1)) (Ent.cells1 _) hs (by first | rfl | assumption) (fun w hs => ?_)
                      refine WL.val rfl (run_assign) ?_
                      refine WL.nil ?_
                      refine CW.ret ?_
                      refine fin_cellTmp rfl rfl (run_loadVarN ty48 hcl1 hs.a2) ?_
                      exact .ok hr.symm rfl (Step.dropR (L1 := [_]) (Step.dropL (L1 := [_, _, _]) hs))
        · rw [if_neg hw] at hr
          repeat (first | refine CW.seq ?_ | refine CW.skip ?_ | refine CW.condF rfl ?_)
          refine CW.reg ?_
          refine WL.val rfl (run_move) ?_
          refine WL.val rfl (run_field (o' := 2) Try.underlying73 rfl ty29 rfl rfl rfl) ?_
          refine WL.val rfl (run_load1 ty29 rfl (hs.c1 rfl)) ?_
          refine WL.val rfl (run_toString Try.underlying29 Try.underlying9 Try.underlying5 rfl ((hvs _ [] (by rw [List.append_nil]; exact Step.dropL (L1 := [_, _, _, _]) hs)))) ?_
          refine WL.enter rfl (run_call en63 rfl rfl) (nameR_spec (hnm (decide_eq_false hw)) _ (hls hs) (by omega)) ?_
          rintro e w ⟨rfl, hq⟩
          refine ⟨_, rfl, ?_⟩
          replace hs := hs.callE hq
          refine WL.val rfl (run_not rfl) ?_
          refine WL.nil ?_
          repeat (first | refine CW.seq ?_ | refine CW.condT rfl ?_)
          refine CW.reg ?_
          refine WL.val rfl (run_build rfl (bld_zE _)) ?_
          refine WL.storeAll_3 ty48 rfl rfl (by first | rfl | assumption) (by first | assumption | exact Cells1.of_all rfl | exact Ent.cells1 _) hs (by first | rfl | assumption) (fun w hs => ?_)
          refine WL.val rfl (run_assign) ?_
          refine WL.nil ?_
          refine CW.ret ?_
          refine fin_cellTmp rfl rfl (run_loadVarN ty48 rfl hs.a3) ?_
          exact .err hr.symm rfl (Step.dropR (L1 := [_]) hs)
    · rw [if_neg (by omega)] at hr
      repeat (first | refine CW.seq ?_ | refine CW.skip ?_ | refine CW.condF rfl ?_)
      refine CW.reg ?_
      refine WL.val rfl (run_field (o' := 1) Try.underlying73 rfl ty3 rfl rfl rfl) ?_
      refine WL.val rfl (run_load1 ty3 rfl (hs.c0 rfl)) ?_
      refine WL.enter rfl (run_call en62 rfl rfl) (kind_spec _ _) ?_
      rintro e w ⟨rfl, hq⟩
      refine ⟨_, rfl, ?_⟩
      rw [decide_eq_false hk]
      replace hs := hs.callE hq
      refine WL.val rfl (run_not rfl) ?_
      refine WL.nil ?_
      repeat (first | refine CW.seq ?_ | refine CW.condT rfl ?_)
      refine CW.reg ?_
      refine WL.val rfl (run_build rfl (bld_zE _)) ?_
      refine WL.storeAll_2 ty48 rfl rfl (by first | rfl | assumption) (by first | assumption | exact Cells1.of_all rfl | exact Ent.cells1 _) hs (by first | rfl | assumption) (fun w hs => ?_)
      refine WL.val rfl (run_assign) ?_
      refine WL.nil ?_
      refine CW.ret ?_
      refine fin_cellTmp rfl rfl (run_loadVarN ty48 rfl hs.a2) ?_
      exact .err hr.symm rfl (Step.dropR (L1 := [_]) (Step.dropL (L1 := [_]) hs))
end Go.Gx
