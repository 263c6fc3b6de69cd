/- node.Decode's reading function. -/
import Derived.Test.YtkdmkjlchlcebaaRead3
namespace Go.Gx
open Go.Proofs
set_option linter.unusedVariables false
set_option linter.unusedSimpArgs false
set_option maxRecDepth 100000

theorem fold_splice (off : Nat) : ∀ (vs : List Value) (k : Nat) (cs : List Value), off + k + vs.length ≤ cs.length → (vs.zipIdx k).foldl (fun (a : Array Value) (x : Value × Nat) => a.setIfInBounds (off + x.2) x.1) cs.toArray = (splice cs (off + k) vs).toArray
  | [], k, cs, _ => by rw [splice_nil]; rfl
  | v :: vs, k, cs, h => by
    simp only [List.length_cons] at h
    rw [List.zipIdx_cons, List.foldl_cons, List.setIfInBounds_toArray, fold_splice off vs (k + 1) _ (by rw [List.length_set]; omega), ← Nat.add_assoc, splice_cons v vs (by omega)]
theorem filled1 {sz : Nat} {zs cs : List Value} (h : cs.length = sz) (hz : zs.length = sz) : Filled sz 1 zs [(0, .agg cs.toArray)] cs := by
  have e : ((Value.agg cs.toArray).cells.zipIdx.foldl (fun (a : Array Value) (x : Value × Nat) => a.setIfInBounds (0 * sz + x.2) x.1) (List.replicate 1 zs).flatten.toArray) = cs.toArray := by
    have h1 := fold_splice 0 cs 0 zs (by omega)
    have h2 : splice zs 0 cs = cs := by simp [splice, List.drop_of_length_le (show zs.length ≤ cs.length by omega)]
    simp only [Value.cells, Nat.zero_mul, List.replicate_one, List.flatten_cons, List.flatten_nil, List.append_nil, ← Array.foldl_toList, Array.toList_zipIdx]
    rw [h1, h2]
  unfold Filled
  simp only [Instr.fill]
  rw [if_neg (by simp [Value.cells, h, hz]), e]

def entsP (bs : List UInt8) : Nat → List UInt8 → Nat → Except Int (List Ent × Nat)
  | 0, _, p => .ok ([], p)
  | n + 1, a, p =>
    match entP a bs p with
    | .error e => .error e
    | .ok (x, q) =>
      match entsP bs n x.name q with
      | .error e => .error e
      | .ok (l, r) => .ok (x :: l, r)
def decP (bs : List UInt8) : Except Int (List Ent × Nat) :=
  match numP bs 0 with
  | .error e => .error e
  | .ok (t, p) => if t = 1 then
      match mostP 1024 bs p with
      | .error e => .error e
      | .ok (n, q) => entsP bs n [] q
    else .error 52
def preR (l : List Ent) : Except Int (List Ent × Nat) → Except Int (List Ent × Nat)
  | .error e => .error e
  | .ok (m, q) => .ok (l ++ m, q)
theorem preR_nil (r : Except Int (List Ent × Nat)) : preR [] r = r := by
  rcases r with e | ⟨m, q⟩ <;> rfl
theorem lastN_snoc (l : List Ent) (x : Ent) : lastN (l ++ [x]) = x.name := by simp [lastN]
theorem entsP_step {bs : List UInt8} {n : Nat} {a : List UInt8} {p q : Nat} {x : Ent} (l : List Ent) (h : entP a bs p = .ok (x, q)) : preR l (entsP bs (n + 1) a p) = preR (l ++ [x]) (entsP bs n x.name q) := by
  conv => lhs; unfold entsP
  rw [h]
  simp only
  rcases entsP bs n x.name q with e | ⟨m, r⟩
  · rfl
  · simp [preR]
theorem entsP_stop {bs : List UInt8} {n : Nat} {a : List UInt8} {p : Nat} {e : Int} (l : List Ent) (h : entP a bs p = .error e) : preR l (entsP bs (n + 1) a p) = .error e := by
  conv => lhs; unfold entsP
  rw [h]
  rfl
theorem entP_ok {bs a : List UInt8} {p q : Nat} {x : Ent} (hl : bs.length ≤ 1048576) (h : entP a bs p = .ok (x, q)) : x.ok ∧ q ≤ bs.length ∧ p < q ∧ x.name.length ≤ 1048576 := by
  unfold entP at h
  split at h
  · cases h
  · rename_i k p1 h1
    have hb1 := numP_ok h1
    split at h
    · rename_i hk
      split at h
      · cases h
      · rename_i s p2 h2
        have hb2 := bytesP_ok h2
        have hl2 := bytesP_len h2
        split at h
        · split at h
          · cases h
          · rename_i d p3 h3
            have hb3 := bytesP_ok h3
            split at h
            · cases h
            · rename_i hbad
              injection h with h; injection h with hx hq
              subst hx; subst hq
              have hdl : d.length ≤ 32 := by
                rcases Nat.lt_or_ge 32 d.length with h' | h'
                · exact absurd (.inl h') hbad
                · exact h'
              refine ⟨⟨?_, ?_, ?_, ?_⟩, hb3.1, by omega, ?_⟩
              · simp [padD]; omega
              · show -9223372036854775808 ≤ (k : Int)
                omega
              · show (k : Int) ≤ 9223372036854775807
                omega
              · show s.length ≤ _
                omega
              · show s.length ≤ _
                omega
        · cases h
    · cases h

def DecR (b bl : Nat) (bv : Value) (w0 : World) : Except Int (List Ent × Nat) → Ending → World → Prop
  | .ok (l, q), e, w' => ∃ v Lv, e = .returned (.tuple #[]) ∧ OwnSl 48 34 v l.length (rows l) Lv ∧ Oks l ∧ l.length ≤ 1024 ∧ q ≤ 1048576 ∧ Step [b, bl] (RB b bv q :: (bl, blk 22 [v]) :: Lv) w0 w'
  | .error er, e, w' => ∃ p v Lv, e = .panicked (pch b) ∧ v.oneCell' = true ∧ Step [b, bl] (RF b bv p er :: (bl, blk 22 [v]) :: Lv) w0 w'
theorem DecR.err {b bl : Nat} {bv : Value} {w0 w w' : World} {er : Int} {r : Except Int (List Ent × Nat)} {p : Nat} {v : Value} {Lv : List (Nat × Obj)} {e : Ending} (hr : r = .error er) (hv : v.oneCell' = true) (hs : Step [b, bl] (RB b bv p :: (bl, blk 22 [v]) :: Lv) w0 w) (h : Thrown b bv er w e w') : DecR b bl bv w0 r e w' := by
  subst hr
  obtain ⟨p', he, h⟩ := h
  exact ⟨p', v, Lv, he, hv, Step.call (L1 := [RB b bv p]) hs h⟩

theorem dec2_at {b bl : Nat} {bs : List UInt8} {bv : Value} {r : Except Int (List Ent × Nat)} (hr : decP bs = r) (w0 : World) (hsl : Sl w0 1 bv bs.length (u8s bs)) (hout : Outside bv [b, bl]) (hroom : Room bv) (hlen : bs.length ≤ 1048576)
    (hO : Step [b, bl] (RB b bv 0 :: (bl, blk 22 [.slice none 0 0]) :: []) w0 w0) : Calls Try.prog 46 #[.pointer (some ⟨b, 0, none⟩), .pointer (some ⟨bl, 0, none⟩)] w0 (DecR b bl bv w0 r) := by
  have hs := hO
  have hout1 : Outside bv [b] := by
    unfold Outside at hout ⊢
    split
    · intro h; exact hout (by simp at h ⊢; exact .inl h)
    · trivial
  have rd : ∀ {w : World} {p : Nat} {L : List (Nat × Obj)}, Step [b, bl] (RB b bv p :: L) w0 w → RdOk w b bs bv p := fun h => ⟨Step.own (L1 := [_]) h, hsl.step h hout, hout1, hroom, hlen⟩
  have hst : ∀ {w w' : World} {p : Nat} {L L2 : List (Nat × Obj)}, Step [b, bl] (RB b bv p :: L) w0 w → Step [b] L2 w w' → Step [b, bl] (L2 ++ L) w0 w' := fun h h2 => Step.call (L1 := [RB b bv _]) h h2
  unfold decP at hr
  cases h1 : numP bs 0 with
  | error er =>
    rw [h1] at hr
    refine calls (n := 24) Try.func46 rfl rfl rfl ?_
    repeat (first | refine CW.seq ?_ | refine CW.block ?_ | refine CW.skip ?_ | refine CW.label ?_ | refine CW.exit ?_ | refine CW.condT rfl ?_ | refine CW.condF rfl ?_)
    refine CW.reg ?_
    refine WL.val rfl (run_move) ?_
    refine WL.enterX (run_call en47 rfl rfl) (num_at h1 _ (rd hs) (by omega)) ?_
    rintro e w ⟨p', rfl, hq⟩
    refine ⟨_, rfl, ?_⟩
    exact fin_panic (.err hr.symm rfl hs ⟨p', rfl, hq⟩)
  | ok tp =>
    obtain ⟨t, p1⟩ := tp
    rw [h1] at hr
    have hb1 := numP_ok h1
    simp only at hr
    by_cases ht : t = 1
    · rw [if_pos ht] at hr
      subst ht
      cases h2 : mostP 1024 bs p1 with
      | error er =>
        rw [h2] at hr
        refine calls (n := 24) Try.func46 rfl rfl rfl ?_
        repeat (first | refine CW.seq ?_ | refine CW.block ?_ | refine CW.skip ?_ | refine CW.label ?_ | refine CW.exit ?_ | refine CW.condT rfl ?_ | refine CW.condF rfl ?_)
        refine CW.reg ?_
        refine WL.val rfl (run_move) ?_
        refine WL.enter rfl (run_call en47 rfl rfl) (num_at h1 _ (rd hs) (by omega)) ?_
        rintro e w ⟨rfl, hq⟩
        refine ⟨_, rfl, ?_⟩
        replace hs := hst hs hq
        refine WL.val rfl (run_bF (run_neq rfl rfl) (by show ¬ ((1 : Nat) : Int) ≠ 1; decide)) ?_
        refine WL.nil ?_
        repeat (first | refine CW.seq ?_ | refine CW.block ?_ | refine CW.skip ?_ | refine CW.label ?_ | refine CW.exit ?_ | refine CW.condT rfl ?_ | refine CW.condF rfl ?_)
        refine CW.reg ?_
        refine WL.val rfl (run_assign) ?_
        refine WL.nil ?_
        repeat (first | refine CW.seq ?_ | refine CW.block ?_ | refine CW.skip ?_ | refine CW.label ?_ | refine CW.exit ?_ | refine CW.condT rfl ?_ | refine CW.condF rfl ?_)
        refine CW.reg ?_
        refine WL.val rfl (run_move) ?_
        refine WL.enterX (run_call en49 rfl rfl) (most_at h2 _ (rd hs) hb1.1) ?_
        rintro e w ⟨p', rfl, hq2⟩
        refine ⟨_, rfl, ?_⟩
        exact fin_panic (.err hr.symm rfl hs ⟨p', rfl, hq2⟩)
      | ok nq =>
        obtain ⟨n, q0⟩ := nq
        rw [h2] at hr
        have hb2 := mostP_ok h2
        simp only at hr
        refine calls (n := 24) Try.func46 rfl rfl rfl ?_
        repeat (first | refine CW.seq ?_ | refine CW.block ?_ | refine CW.skip ?_ | refine CW.label ?_ | refine CW.exit ?_ | refine CW.condT rfl ?_ | refine CW.condF rfl ?_)
        refine CW.reg ?_
        refine WL.val rfl (run_move) ?_
        refine WL.enter rfl (run_call en47 rfl rfl) (num_at h1 _ (rd hs) (by omega)) ?_
        rintro e w ⟨rfl, hq⟩
        refine ⟨_, rfl, ?_⟩
        replace hs := hst hs hq
        refine WL.val rfl (run_bF (run_neq rfl rfl) (by show ¬ ((1 : Nat) : Int) ≠ 1; decide)) ?_
        refine WL.nil ?_
        repeat (first | refine CW.seq ?_ | refine CW.block ?_ | refine CW.skip ?_ | refine CW.label ?_ | refine CW.exit ?_ | refine CW.condT rfl ?_ | refine CW.condF rfl ?_)
        refine CW.reg ?_
        refine WL.val rfl (run_assign) ?_
        refine WL.nil ?_
        repeat (first | refine CW.seq ?_ | refine CW.block ?_ | refine CW.skip ?_ | refine CW.label ?_ | refine CW.exit ?_ | refine CW.condT rfl ?_ | refine CW.condF rfl ?_)
        refine CW.reg ?_
        refine WL.val rfl (run_move) ?_
        refine WL.enter rfl (run_call en49 rfl rfl) (most_at h2 _ (rd hs) hb1.1) ?_
        rintro e w ⟨rfl, hq2⟩
        refine ⟨_, rfl, ?_⟩
        replace hs := hst hs hq2
        refine WL.val rfl (run_move) ?_
        refine WL.nil ?_
        repeat (first | refine CW.seq ?_ | refine CW.block ?_ | refine CW.skip ?_ | refine CW.label ?_ | refine CW.exit ?_ | refine CW.condT rfl ?_ | refine CW.condF rfl ?_)
        refine CW.loop (fun m f w' => ∃ i l q v Lv, i ≤ n ∧ m = n - i ∧ q ≤ bs.length ∧ l.length = i ∧ r = preR l (entsP bs (n - i) (lastN l) q) ∧ OwnSl 48 34 v l.length (rows l) Lv ∧ Oks l ∧ (lastN l).length ≤ 1048576 ∧ Step [b, bl] (RB b bv q :: (bl, blk 22 [v]) :: Lv) w0 w' ∧ Holds f [(0, .pointer (some ⟨b, 0, none⟩)), (1, .pointer (some ⟨bl, 0, none⟩)), (3, str (lastN l)), (11, .int .i64 n), (12, .int .i64 i)]) (m := n) ?_ ?_
        · exact ⟨0, [], q0, _, [], by omega, by omega, hb2.1, rfl, by rw [preR_nil]; exact hr.symm, .nil _ _, Oks.nil, by simp [lastN], hs, rfl, rfl, rfl, rfl, rfl, trivial⟩
        · rintro m f w ⟨i, l, q, v, Lv, hi, rfl, hq0, hll, hr, hv, hok, hla, hs, hf⟩
          have hobt := hf.chain
          obtain ⟨g, rfl⟩ := hobt
          repeat (first | refine CW.seq ?_ | refine CW.block ?_ | refine CW.skip ?_ | refine CW.label ?_ | refine CW.exit ?_ | refine CW.condT rfl ?_ | refine CW.condF rfl ?_)
          refine CW.reg ?_
          refine WL.val rfl (run_lss rfl rfl) ?_
          refine WL.nil ?_
          repeat (first | refine CW.seq ?_ | refine CW.block ?_ | refine CW.skip ?_ | refine CW.label ?_ | refine CW.exit ?_)
          first | refine CW.condP rfl (fun h => ?_) (fun h => ?_) | refine CW.cond rfl (fun h => ?_) (fun h => ?_)
          · have hlt : i < n := by omega
            have hobt : ∃ j, n - i = j + 1 := ⟨n - i - 1, by omega⟩
            obtain ⟨j, hj⟩ := hobt
            rw [hj] at hr
            cases h3 : entP (lastN l) bs q with
            | error er =>
              rw [entsP_stop l h3] at hr
              repeat (first | refine CW.seq ?_ | refine CW.block ?_ | refine CW.skip ?_ | refine CW.label ?_ | refine CW.exit ?_ | refine CW.condT rfl ?_ | refine CW.condF rfl ?_)
              refine CW.reg ?_
              refine WL.val rfl (run_move) ?_
              refine WL.val rfl (run_move) ?_
              refine WL.enterX (run_call en50 rfl rfl) (entry_at h3 _ (rd hs) hq0 (by omega)) ?_
              rintro e w ⟨p', rfl, hq3⟩
              refine ⟨_, rfl, ?_⟩
              exact fin_panic (.err hr hv.one hs ⟨p', rfl, hq3⟩)
            | ok xq =>
              obtain ⟨x, q'⟩ := xq
              rw [entsP_step l h3] at hr
              have hxo := entP_ok hlen h3
              have hobt := hv.form
              obtain ⟨va, vc, rfl⟩ := hobt
              have hxl := Ent.cells_len hxo.1
              repeat (first | refine CW.seq ?_ | refine CW.block ?_ | refine CW.skip ?_ | refine CW.label ?_ | refine CW.exit ?_ | refine CW.condT rfl ?_ | refine CW.condF rfl ?_)
              refine CW.reg ?_
              refine WL.val rfl (run_move) ?_
              refine WL.val rfl (run_move) ?_
              refine WL.enter rfl (run_call en50 rfl rfl) (entry_at h3 _ (rd hs) hq0 (by omega)) ?_
              rintro e w ⟨rfl, hq3⟩
              refine ⟨_, rfl, ?_⟩
              replace hs := hst hs hq3
              refine WL.alloc ty48 rfl hs (fun b4 w hs => ?_)
              refine WL.storeAll ty48 rfl rfl (hxl) (x.cells1) (hs) rfl (fun w hs => ?_)
              refine WL.nil ?_
              repeat (first | refine CW.seq ?_ | refine CW.block ?_ | refine CW.skip ?_ | refine CW.label ?_ | refine CW.exit ?_ | refine CW.condT rfl ?_ | refine CW.condF rfl ?_)
              refine CW.any (A := fun w => Step [b, bl] [(b4, blk 48 x.cells), RB b bv q'] w0 w) (C := fun w => Step [b, bl] [(b4, blk 48 x.cells), RB b bv q', (bl, blk 22 [.slice va l.length vc])] w0 w) 6 8 mixedP rfl ?_
              replace hs := hs.drew
              refine AL.val 0 rfl (by kernel_rfl) rfl (fun w hs => run_load1 ty22 rfl (hs.tail.tail.c0 rfl)) ?_
              refine AL.val 1 rfl (by kernel_rfl) rfl (fun w hs => run_loadN ty48 rfl hxl hs.a0) ?_
              refine AL.valA 4 rfl (by kernel_rfl) rfl (fun w hs => run_field (o' := 0) Try.underlying48 rfl ty9 rfl rfl rfl) ?_
              refine AL.valA 5 rfl (by kernel_rfl) rfl (fun w hs => run_load1 ty9 rfl (hs.c0 rfl)) ?_
              refine AL.one 2 (by kernel_rfl) rfl (Step.dropR (L1 := [_, _]) hs) (Step.dropR (L1 := [_, _, _]) hs) ?_
              refine WL.buildSlice (cs := x.cells) Try.underlying22 ty48 rfl (by decide) rfl (filled1 hxl rfl) rfl hs (fun b19 w hs => ?_)
              have hsl19 : Sl w 34 (.slice (some ⟨b19, 0, none⟩) 1 1) 1 x.cells := .own1 hs (by rw [hxl])
              replace hs : Step [b, bl] ([_, _, _] ++ (Lv ++ [_])) w0 w := hs.rot1
              refine WL.nil ?_
              refine ⟨rfl, ?_⟩
              refine AL.one 3 (by kernel_rfl) rfl (Step.dropR (L1 := [_, _]) hs) (Step.dropR (L1 := [_, _, _]) hs) ?_
              refine WL.append Try.underlying22 Try.underlying22 ty48 rfl (by decide) rfl rfl (hv) ((by have := hs.append_comm; rw [List.append_assoc] at this; exact this)) (hsl19) (x.cells1) (by first | omega | (simp only [List.length_append, List.length_cons, List.length_nil]; omega)) rfl (fun v20 Lv20 w hv20 hs => ?_)
              replace hs := Step.tail (Step.append_comm hs)
              refine WL.nil ?_
              refine ⟨rfl, ?_⟩
              refine AL.one 6 (by kernel_rfl) rfl (Step.dropR (L1 := [_, _]) hs) (Step.dropR (L1 := [_, _, _]) hs) ?_
              refine WL.store1 ty22 rfl rfl (hv20.one) (hs.rot3) (by first | (simp; done) | omega | (simp only [List.length_append, List.length_replicate, List.length_cons, List.length_nil, List.length_set]; omega) | (simp [Ent.cells, u8s]; done) | exact Nat.le_of_ble_eq_true rfl) (fun w hs => ?_)
              replace hs := hs.rot3.rot3
              refine WL.nil ?_
              refine ⟨rfl, ?_⟩
              refine AL.relax (by kernel_rfl) ?_
              refine AL.valA 7 rfl (by kernel_rfl) rfl (fun w hs => run_assign) ?_
              refine AL.end (by kernel_rfl) (Step.dropR (L1 := [_, _]) hs) (trivial) ?_
              replace hs := hs.tail
              repeat (first | refine CW.seq ?_ | refine CW.block ?_ | refine CW.skip ?_ | refine CW.label ?_ | refine CW.exit ?_ | refine CW.condT rfl ?_ | refine CW.condF rfl ?_)
              refine CW.reg ?_
              refine WL.val rfl (run_add (c := ((i + 1 : Nat) : Int)) rfl rfl (by omega) (by omega)) ?_
              refine WL.val rfl (run_move) ?_
              refine WL.nil ?_
              repeat (first | refine CW.seq ?_ | refine CW.block ?_ | refine CW.skip ?_ | refine CW.label ?_ | refine CW.exit ?_)
              refine (show _ ∧ _ from ⟨rfl, _, ?_, i + 1, l ++ [x], q', _, _, by omega, rfl, hxo.2.1, ?_, ?_, ?_, hok.append (Oks.one hxo.1), ?_, hs, rfl, rfl, ?_, rfl, rfl, trivial⟩)
              · omega
              · simp [hll]
              · rw [hr, lastN_snoc, show n - (i + 1) = j by omega]
              · rw [List.length_append, rows_append, rows_one]
                exact hv20
              · rw [lastN_snoc]; exact hxo.2.2.2
              · rw [lastN_snoc]; rfl
          · obtain rfl : i = n := by omega
            repeat (first | refine CW.seq ?_ | refine CW.block ?_ | refine CW.skip ?_ | refine CW.label ?_ | refine CW.exit ?_ | refine CW.condT rfl ?_ | refine CW.condF rfl ?_)
            refine fin_end0 rfl ?_
            have e : r = .ok (l, q) := by
              rw [hr, show i - i = 0 by omega]
              simp [entsP, preR]
            rw [e]
            exact ⟨v, Lv, rfl, hv, hok, by omega, by omega, hs⟩
    · rw [if_neg ht] at hr
      refine calls (n := 24) Try.func46 rfl rfl rfl ?_
      repeat (first | refine CW.seq ?_ | refine CW.block ?_ | refine CW.skip ?_ | refine CW.label ?_ | refine CW.exit ?_ | refine CW.condT rfl ?_ | refine CW.condF rfl ?_)
      refine CW.reg ?_
      refine WL.val rfl (run_move) ?_
      refine WL.enter rfl (run_call en47 rfl rfl) (num_at h1 _ (rd hs) (by omega)) ?_
      rintro e w ⟨rfl, hq⟩
      refine ⟨_, rfl, ?_⟩
      replace hs := hst hs hq
      refine WL.val rfl (run_bT (run_neq rfl rfl) (by show (t : Int) ≠ 1; omega)) ?_
      refine WL.nil ?_
      repeat (first | refine CW.seq ?_ | refine CW.block ?_ | refine CW.skip ?_ | refine CW.label ?_ | refine CW.exit ?_ | refine CW.condT rfl ?_ | refine CW.condF rfl ?_)
      refine CW.reg ?_
      refine WL.val rfl (run_move) ?_
      refine WL.enterX (run_call en48 rfl rfl) (fail_throw (bs := bs) (er := 52) _ (rd hs) (by decide)) ?_
      rintro e w ⟨p', rfl, hq2⟩
      refine ⟨_, rfl, ?_⟩
      exact fin_panic (.err hr.symm rfl hs ⟨p', rfl, hq2⟩)
end Go.Gx
