/- Library functions of slices at entries: Insert of one entry. -/
import Derived.Test.YtkdmkjlchlcebaaSl2
namespace Go.Gx
open Go.Proofs
set_option linter.unusedVariables false
set_option linter.unusedSimpArgs false
set_option maxRecDepth 100000

theorem ins_rows (l : List Ent) (i : Nat) (x : Ent) : rows (ins l i x) = rows (l.take i) ++ x.cells ++ rows (l.drop i) := by
  rw [ins, rows_append, List.append_assoc]
  rfl
theorem OwnSl.some1 {E sz k : Nat} {v : Value} {xs : List Value} {Lv : List (Nat × Obj)} (h : OwnSl E sz v k xs Lv) (hk : 0 < k) : ∃ b cap more, v = .slice (some ⟨b, 0, none⟩) k cap ∧ Lv = [(b, blk E (xs ++ more))] ∧ (xs ++ more).length = cap * sz := by
  obtain ⟨hl, ⟨h1, h0, _⟩ | h⟩ := h
  · omega
  · exact h

theorem insertE_spec {b bx cap i : Nat} {l : List Ent} {x : Ent} {more : List Value} (w0 : World) (hi : i ≤ l.length) (ho : Oks l) (hx : x.ok) (hbb : l.length ≤ 1000000) (hO : Step [b] [(b, blk 48 (rows l ++ more))] w0 w0) (hcap : (rows l ++ more).length = cap * 34)
    (hxb : w0.heap[bx]? = some (blk 48 x.cells)) (hne : bx ≠ b) :
    Calls Try.prog 58 #[.slice (some ⟨b, 0, none⟩) l.length cap, .int .i64 i, .slice (some ⟨bx, 0, none⟩) 1 1] w0 fun e w' => ∃ u Lu, e = .returned u ∧ OwnSl 48 34 u (l.length + 1) (rows (ins l i x)) Lu ∧ Step [b] Lu w0 w' := by
  have hs := hO
  have hrl := rows_len ho
  have hxl := Ent.cells_len hx
  have hml : more.length = (cap - l.length) * 34 := by
    rw [List.length_append, hrl] at hcap
    omega
  have hcl : l.length ≤ cap := by
    rw [List.length_append, hrl] at hcap
    omega
  have htl := rows_take_len ho hi
  have hdl := rows_drop_len ho i
  have hnb : bx ∉ [b] := by simpa using hne
  have hxs : ∀ {w : World} {L : List (Nat × Obj)}, Step [b] L w0 w → Sl w 34 (.slice (some ⟨bx, 0, none⟩) 1 1) 1 x.cells := fun hs => .mk (by rw [hxl]) ((At.of_blk hxb).step hs hnb)
  have hat : ∀ {w : World} {L : List (Nat × Obj)}, Step [b] ((b, blk 48 (rows l ++ more)) :: L) w0 w → At w b 0 (rows l) := fun hs => (At.of_blk hs.hd).left
  have hsrc : ∀ {w : World} {L : List (Nat × Obj)}, Step [b] ((b, blk 48 (rows l ++ more)) :: L) w0 w → Sl w 34 (cutSl 34 b 0 i l.length cap) (l.length - i) (rows (l.drop i)) := fun hs => by
    have h1 := Sl.cut (sz := 34) (lo := i) (hi := l.length) (m := cap) (hat hs) hrl (by omega) (Nat.le_refl _) hcl
    rw [rows_take ho (Nat.le_refl _), List.take_length, rows_drop ho hi] at h1
    exact h1
  have hil : (rows (ins l i x)).length = (l.length + 1) * 34 := by
    rw [ins_rows]
    simp only [List.length_append, htl, hxl, hdl]
    omega
  by_cases hend : i = l.length
  · have hown : OwnSl 48 34 (.slice (some ⟨b, 0, none⟩) l.length cap) l.length (rows l) [(b, blk 48 (rows l ++ more))] := ⟨hrl, .inr ⟨b, cap, more, rfl, rfl, hcap⟩⟩
    have he : rows (ins l i x) = rows l ++ x.cells := by
      rw [ins_rows, hend, List.take_length, List.drop_length]
      simp [rows]
    refine calls (n := 95) Try.func58 rfl rfl rfl ?_
    repeat (first | refine CW.seq ?_ | refine CW.block ?_ | refine CW.skip ?_ | refine CW.exit ?_ | refine CW.condT rfl ?_ | refine CW.condF rfl ?_)
    refine CW.reg ?_
    refine WL.val rfl (run_assign) ?_
    refine WL.nil ?_
    repeat (first | refine CW.seq ?_ | refine CW.block ?_ | refine CW.skip ?_ | refine CW.exit ?_ | refine CW.condT rfl ?_ | refine CW.condF rfl ?_)
    refine CW.reg ?_
    refine WL.val rfl (run_move) ?_
    refine WL.val rfl (run_move) ?_
    refine WL.val rfl (run_sliceSlE (lo := i) (hi := l.length) (m := cap) Try.underlying22 ty48 rfl rfl rfl rfl (by simp) (by omega) (by omega) (by omega) rfl) ?_
    refine WL.nil ?_
    repeat (first | refine CW.seq ?_ | refine CW.block ?_ | refine CW.skip ?_ | refine CW.exit ?_ | refine CW.condT rfl ?_ | refine CW.condF rfl ?_)
    refine CW.reg ?_
    refine WL.val rfl (run_move) ?_
    refine WL.val rfl (run_lenSl Try.underlying22 rfl) ?_
    refine WL.val rfl (run_assign) ?_
    refine WL.nil ?_
    repeat (first | refine CW.seq ?_ | refine CW.block ?_ | refine CW.skip ?_ | refine CW.exit ?_ | refine CW.condT rfl ?_ | refine CW.condF rfl ?_)
    refine CW.reg ?_
    refine WL.val rfl (run_move) ?_
    refine WL.val rfl (run_bF (run_eql rfl rfl) (by decide)) ?_
    refine WL.nil ?_
    repeat (first | refine CW.seq ?_ | refine CW.block ?_ | refine CW.skip ?_ | refine CW.exit ?_ | refine CW.condT rfl ?_ | refine CW.condF rfl ?_)
    refine CW.reg ?_
    refine WL.val rfl (run_move) ?_
    refine WL.val rfl (run_lenSl Try.underlying22 rfl) ?_
    refine WL.val rfl (run_assign) ?_
    refine WL.nil ?_
    repeat (first | refine CW.seq ?_ | refine CW.block ?_ | refine CW.skip ?_ | refine CW.exit ?_ | refine CW.condT rfl ?_ | refine CW.condF rfl ?_)
    refine CW.reg ?_
    refine WL.val rfl (run_move) ?_
    refine WL.val rfl (run_move) ?_
    refine WL.val rfl (run_bT (run_eql rfl rfl) (by omega)) ?_
    refine WL.nil ?_
    repeat (first | refine CW.seq ?_ | refine CW.block ?_ | refine CW.skip ?_ | refine CW.exit ?_ | refine CW.condT rfl ?_ | refine CW.condF rfl ?_)
    refine CW.reg ?_
    refine WL.val rfl (run_move) ?_
    refine WL.val rfl (run_move) ?_
    refine WL.append Try.underlying22 Try.underlying22 ty48 rfl (by decide) rfl rfl (hown) (hs) (hxs hs) (x.cells1) (by first | omega | (simp only [List.length_append, List.length_cons, List.length_nil]; omega)) rfl (fun v25 Lv25 w hv25 hs => ?_)
    refine WL.val rfl (run_assign) ?_
    refine WL.nil ?_
    repeat (first | refine CW.seq ?_ | refine CW.block ?_ | refine CW.skip ?_ | refine CW.exit ?_ | refine CW.condT rfl ?_ | refine CW.condF rfl ?_)
    refine CW.ret ?_
    refine fin_ret1 rfl ?_
    rw [← he] at hv25
    exact ⟨_, _, rfl, hv25, Step.dropR (L2 := []) hs⟩
  · have hlt : i < l.length := by omega
    by_cases hgrow : cap < l.length + 1
    · refine calls (n := 95) Try.func58 rfl rfl rfl ?_
      repeat (first | refine CW.seq ?_ | refine CW.block ?_ | refine CW.skip ?_ | refine CW.exit ?_ | refine CW.condT rfl ?_ | refine CW.condF rfl ?_)
      refine CW.reg ?_
      refine WL.val rfl (run_assign) ?_
      refine WL.nil ?_
      repeat (first | refine CW.seq ?_ | refine CW.block ?_ | refine CW.skip ?_ | refine CW.exit ?_ | refine CW.condT rfl ?_ | refine CW.condF rfl ?_)
      refine CW.reg ?_
      refine WL.val rfl (run_move) ?_
      refine WL.val rfl (run_move) ?_
      refine WL.val rfl (run_sliceSlE (lo := i) (hi := l.length) (m := cap) Try.underlying22 ty48 rfl rfl rfl rfl (by simp) (by omega) (by omega) (by omega) rfl) ?_
      refine WL.nil ?_
      repeat (first | refine CW.seq ?_ | refine CW.block ?_ | refine CW.skip ?_ | refine CW.exit ?_ | refine CW.condT rfl ?_ | refine CW.condF rfl ?_)
      refine CW.reg ?_
      refine WL.val rfl (run_move) ?_
      refine WL.val rfl (run_lenSl Try.underlying22 rfl) ?_
      refine WL.val rfl (run_assign) ?_
      refine WL.nil ?_
      repeat (first | refine CW.seq ?_ | refine CW.block ?_ | refine CW.skip ?_ | refine CW.exit ?_ | refine CW.condT rfl ?_ | refine CW.condF rfl ?_)
      refine CW.reg ?_
      refine WL.val rfl (run_move) ?_
      refine WL.val rfl (run_bF (run_eql rfl rfl) (by decide)) ?_
      refine WL.nil ?_
      repeat (first | refine CW.seq ?_ | refine CW.block ?_ | refine CW.skip ?_ | refine CW.exit ?_ | refine CW.condT rfl ?_ | refine CW.condF rfl ?_)
      refine CW.reg ?_
      refine WL.val rfl (run_move) ?_
      refine WL.val rfl (run_lenSl Try.underlying22 rfl) ?_
      refine WL.val rfl (run_assign) ?_
      refine WL.nil ?_
      repeat (first | refine CW.seq ?_ | refine CW.block ?_ | refine CW.skip ?_ | refine CW.exit ?_ | refine CW.condT rfl ?_ | refine CW.condF rfl ?_)
      refine CW.reg ?_
      refine WL.val rfl (run_move) ?_
      refine WL.val rfl (run_move) ?_
      refine WL.val rfl (run_bF (run_eql rfl rfl) (by omega)) ?_
      refine WL.nil ?_
      repeat (first | refine CW.seq ?_ | refine CW.block ?_ | refine CW.skip ?_ | refine CW.exit ?_ | refine CW.condT rfl ?_ | refine CW.condF rfl ?_)
      refine CW.reg ?_
      refine WL.val rfl (run_move) ?_
      refine WL.val rfl (run_move) ?_
      refine WL.val rfl (run_add (c := ((l.length + 1 : Nat) : Int)) rfl rfl (by omega) (by omega)) ?_
      refine WL.val rfl (run_move) ?_
      refine WL.val rfl (run_capSl Try.underlying22 rfl) ?_
      refine WL.val rfl (run_bT (run_gtr rfl rfl) (by omega)) ?_
      refine WL.nil ?_
      have hold := fun (w : World) (L : List (Nat × Obj)) (hs : Step [b] ((b, blk 48 (rows l ++ more)) :: L) w0 w) => show Sl w 34 (.slice (some ⟨b, 0, none⟩) i cap) i (rows (l.take i)) from .mk htl (by have := (hat hs).take (i * 34); rwa [rows_take ho hi] at this)
      repeat (first | refine CW.seq ?_ | refine CW.block ?_ | refine CW.skip ?_ | refine CW.exit ?_ | refine CW.condT rfl ?_ | refine CW.condF rfl ?_)
      refine CW.reg ?_
      refine WL.val rfl (run_move) ?_
      refine WL.val rfl (run_move) ?_
      refine WL.val rfl (run_sliceSl0 (hi := i) Try.underlying22 ty48 rfl rfl rfl (by simp) (by omega) (by omega)) ?_
      refine WL.val rfl (run_move) ?_
      refine WL.val rfl (run_move) ?_
      refine WL.val rfl (run_add (c := ((l.length + 1 : Nat) : Int)) rfl rfl (by omega) (by omega)) ?_
      refine WL.val rfl (run_move) ?_
      refine WL.val rfl (run_sub (c := ((l.length + 1 - i : Nat) : Int)) rfl rfl (by omega) (by omega)) ?_
      refine WL.appendZ Try.underlying22 Try.underlying3 ty48 rfl (by decide) rfl rfl (hold _ _ hs) hs (by omega) (by omega) rfl (fun v40 Lv40 w hv40 hs => ?_)
      refine WL.val rfl (run_assign) ?_
      refine WL.nil ?_
      have hkl : i + (l.length + 1 - i) = l.length + 1 := by omega
      rw [hkl] at hv40
      have h40 := hv40.some1 (by omega)
      obtain ⟨b2, cap2, more2, hq1, hq2, hcap2⟩ := h40
      subst hq1
      subst hq2
      have hzl : ((List.replicate (l.length + 1 - i) ([str [], .int .i64 0] ++ List.replicate 32 (Value.int .u8 0))).flatten).length = (l.length + 1 - i) * 34 := by
        simp only [List.length_flatten, List.map_replicate, List.sum_replicate_nat]
        rfl
      have hobt : ∃ Z, Z = (List.replicate (l.length + 1 - i) ([str [], .int .i64 0] ++ List.replicate 32 (Value.int .u8 0))).flatten := ⟨_, rfl⟩
      obtain ⟨Z, hZ⟩ := hobt
      rw [← hZ] at hs hcap2 hzl
      have hcl2 : l.length + 1 ≤ cap2 := by
        simp only [List.length_append, htl, hzl] at hcap2
        omega
      have hm2 : more2.length = cap2 * 34 - (l.length + 1) * 34 := by
        simp only [List.length_append, htl, hzl] at hcap2
        omega
      have hcut1 : cutSl 34 b2 0 i (l.length + 1) cap2 = .slice (some ⟨b2, 0 + i * 34, none⟩) (l.length + 1 - i) (cap2 - i) := by rw [cutSl, if_neg (by omega)]
      have hcs1 : (rows (l.take i) ++ Z ++ more2).length = i * 34 + (l.length + 1 - i) * 34 + more2.length := by simp only [List.length_append, htl, hzl]
      have hxs2 := hxs hs
      repeat (first | refine CW.seq ?_ | refine CW.block ?_ | refine CW.skip ?_ | refine CW.exit ?_ | refine CW.condT rfl ?_ | refine CW.condF rfl ?_)
      refine CW.reg ?_
      refine WL.val rfl (run_move) ?_
      refine WL.val rfl (run_move) ?_
      refine WL.val rfl (run_sliceSlE (lo := i) (hi := l.length + 1) (m := cap2) Try.underlying22 ty48 rfl rfl rfl rfl (by simp) (by omega) (by omega) (by omega) hcut1) ?_
      refine WL.val rfl (run_move) ?_
      refine WL.copy Try.underlying22 ty48 rfl rfl (hs) (hxs2) (x.cells1) (by first | omega | (simp [Ent.cells, u8s]; done)) (fun k hk => by cases hk; rfl) (fun w hs => ⟨fun k hk => ?_, fun h => by cases h⟩)
      cases hk
      refine WL.nil ?_
      have e1 : splice (rows (l.take i) ++ Z ++ more2) (0 + i * 34) (List.take (min 1 (l.length + 1 - i) * 34) x.cells) = rows (l.take i) ++ x.cells ++ (Z.drop 34 ++ more2) := by
        rw [Nat.min_eq_left (by omega), List.take_of_length_le (l := x.cells) (by omega)]
        have h1 : rows (l.take i) ++ Z ++ more2 = rows (l.take i) ++ Z.take 34 ++ (Z.drop 34 ++ more2) := by
          rw [List.append_assoc, List.append_assoc, ← List.append_assoc (Z.take 34), List.take_append_drop]
        rw [h1]
        exact splice_mid (by rw [htl]; omega) (by rw [hxl, List.length_take, hzl]; omega)
      replace hs := Step.blkEq e1 hs
      have hz2 : (Z.drop 34).length = (l.length - i) * 34 := by rw [List.length_drop, hzl]; omega
      have hns : ∀ {w : World}, Step [b] [(b2, blk 48 (rows (l.take i) ++ x.cells ++ (Z.drop 34 ++ more2))), (b, blk 48 (rows l ++ more))] w0 w → Sl w 34 (cutSl 34 b 0 i l.length cap) (l.length - i) (rows (l.drop i)) := fun hs => hsrc hs.swap
      have hcut2 : cutSl 34 b2 0 (i + 1) (l.length + 1) cap2 = .slice (some ⟨b2, if cap2 = i + 1 then 0 else 0 + (i + 1) * 34, none⟩) (l.length - i) (cap2 - (i + 1)) := by rw [cutSl, show l.length + 1 - (i + 1) = l.length - i by omega]
      have hcut3 : cutSl 34 b2 0 (i + 1) (l.length + 1) cap2 = .slice (some ⟨b2, 0 + (i + 1) * 34, none⟩) (l.length - i) (cap2 - (i + 1)) := by rw [hcut2, if_neg (by omega)]
      have hcs2 : (rows (l.take i) ++ x.cells ++ (Z.drop 34 ++ more2)).length = (i + 1) * 34 + (l.length - i) * 34 + more2.length := by
        simp only [List.length_append, htl, hxl, hz2]
        omega
      repeat (first | refine CW.seq ?_ | refine CW.block ?_ | refine CW.skip ?_ | refine CW.exit ?_ | refine CW.condT rfl ?_ | refine CW.condF rfl ?_)
      refine CW.any (A := fun w => True) (C := fun w => Step [b] [(b2, blk 48 (rows (l.take i) ++ x.cells ++ (Z.drop 34 ++ more2))), (b, blk 48 (rows l ++ more))] w0 w) 8 9 mixedP rfl ?_
      replace hs := hs.drew
      refine AL.valA 0 rfl (by kernel_rfl) rfl (fun w hs => run_move) ?_
      refine AL.valA 1 rfl (by kernel_rfl) rfl (fun w hs => run_move) ?_
      refine AL.valA 2 rfl (by kernel_rfl) rfl (fun w hs => run_move) ?_
      refine AL.valA 3 rfl (by kernel_rfl) rfl (fun w hs => run_add (c := ((i + 1 : Nat) : Int)) rfl rfl (by omega) (by omega)) ?_
      refine AL.val 4 rfl (by kernel_rfl) rfl (fun w hs => run_sliceSlE (lo := i + 1) (hi := l.length + 1) (m := cap2) Try.underlying22 ty48 rfl rfl rfl rfl (by simp) (by omega) (by omega) (by omega) hcut3) ?_
      refine AL.valA 5 rfl (by kernel_rfl) rfl (fun w hs => run_move) ?_
      refine AL.valA 6 rfl (by kernel_rfl) rfl (fun w hs => run_move) ?_
      refine AL.val 7 rfl (by kernel_rfl) rfl (fun w hs => run_sliceSlE (lo := i) (hi := l.length) (m := cap) Try.underlying22 ty48 rfl rfl rfl rfl (by simp) (by omega) (by omega) (by omega) rfl) ?_
      refine AL.one 8 (by kernel_rfl) rfl (trivial) (hs) ?_
      refine WL.copy Try.underlying22 ty48 rfl rfl (hs) (hns hs) (rows_cells1 _) (by first | omega | (simp [Ent.cells, u8s]; done)) (fun k hk => by cases hk; rfl) (fun w hs => ⟨fun k hk => ?_, fun h => by cases h⟩)
      cases hk
      refine WL.nil ?_
      refine ⟨rfl, ?_⟩
      refine AL.relax (by kernel_rfl) ?_
      refine AL.end (by kernel_rfl) (trivial) (trivial) ?_
      have e2 : splice (rows (l.take i) ++ x.cells ++ (Z.drop 34 ++ more2)) (0 + (i + 1) * 34) (List.take (min (l.length - i) (l.length - i) * 34) (rows (l.drop i))) = rows (ins l i x) ++ more2 := by
        rw [Nat.min_self, List.take_of_length_le (l := rows (l.drop i)) (by omega), ins_rows]
        have h1 := splice_mid (A := rows (l.take i) ++ x.cells) (M := Z.drop 34) (R := more2) (vs := rows (l.drop i)) (off := 0 + (i + 1) * 34) (by simp only [List.length_append, htl, hxl]; omega) (by rw [hz2, hdl])
        rw [← h1]
        simp only [List.append_assoc]
      replace hs := Step.blkEq e2 hs
      repeat (first | refine CW.seq ?_ | refine CW.block ?_ | refine CW.skip ?_ | refine CW.exit ?_ | refine CW.condT rfl ?_ | refine CW.condF rfl ?_)
      refine CW.reg ?_
      refine WL.val rfl (run_move) ?_
      refine WL.val rfl (run_assign) ?_
      refine WL.nil ?_
      repeat (first | refine CW.seq ?_ | refine CW.block ?_ | refine CW.skip ?_ | refine CW.exit ?_ | refine CW.condT rfl ?_ | refine CW.condF rfl ?_)
      refine CW.ret ?_
      refine fin_ret1 rfl ?_
      have hu : OwnSl 48 34 (.slice (some ⟨b2, 0, none⟩) (l.length + 1) cap2) (l.length + 1) (rows (ins l i x)) [(b2, blk 48 (rows (ins l i x) ++ more2))] := ⟨hil, .inr ⟨b2, cap2, more2, rfl, rfl, by rw [List.length_append, hil]; omega⟩⟩
      exact ⟨.slice (some ⟨b2, 0, none⟩) (l.length + 1) cap2, _, rfl, hu, Step.dropR (L1 := [_]) hs⟩
    · have hm34 : 34 ≤ more.length := by omega
      have hcut1 : cutSl 34 b 0 (i + 1) (l.length + 1) cap = .slice (some ⟨b, 0 + (i + 1) * 34, none⟩) (l.length - i) (cap - (i + 1)) := by rw [cutSl, if_neg (by omega), show l.length + 1 - (i + 1) = l.length - i by omega]
      have hcut2 : cutSl 34 b 0 i (l.length + 1) cap = .slice (some ⟨b, 0 + i * 34, none⟩) (l.length + 1 - i) (cap - i) := by rw [cutSl, if_neg (by omega)]
      have hcs1 : (rows l ++ more).length = cap * 34 := hcap
      have hsrc2 : ∀ {w : World}, Step [b] [(b, blk 48 (rows l ++ more))] w0 w → Sl w 34 (.slice (some ⟨b, 0 + i * 34, none⟩) (l.length + 1 - i) (cap - i)) (l.length + 1 - i) ((rows (l.drop i)) ++ more.take 34) := fun hs => by
        refine .mk (by simp only [List.length_append, List.length_take, hdl]; omega) ?_
        have h1 := ((At.of_blk (T := 48) hs.hd).drop (i * 34)).take ((l.length + 1 - i) * 34)
        have e : ((rows l ++ more).drop (i * 34)).take ((l.length + 1 - i) * 34) = rows (l.drop i) ++ more.take 34 := by
          rw [List.drop_append_of_le_length (by omega), rows_drop ho hi, List.take_append, List.take_of_length_le (l := rows (l.drop i)) (by omega), hdl, show (l.length + 1 - i) * 34 - (l.length - i) * 34 = 34 by omega]
        rw [e] at h1
        exact h1
      have hcc : Cells1 ((rows (l.drop i) ++ more.take 34).take (min (l.length + 1 - i) (l.length - i) * 34)) := by
        rw [Nat.min_eq_right (by omega), List.take_append_of_le_length (by omega)]
        exact (rows_cells1 _).take _
      have hbxw : ∀ {w : World} {L : List (Nat × Obj)}, Step [b] L w0 w → w.heap[bx]? = some (blk 48 x.cells) := fun hs => hs.old hxb hnb
      refine calls (n := 95) Try.func58 rfl rfl rfl ?_
      repeat (first | refine CW.seq ?_ | refine CW.block ?_ | refine CW.skip ?_ | refine CW.exit ?_ | refine CW.condT rfl ?_ | refine CW.condF rfl ?_)
      refine CW.reg ?_
      refine WL.val rfl (run_assign) ?_
      refine WL.nil ?_
      repeat (first | refine CW.seq ?_ | refine CW.block ?_ | refine CW.skip ?_ | refine CW.exit ?_ | refine CW.condT rfl ?_ | refine CW.condF rfl ?_)
      refine CW.reg ?_
      refine WL.val rfl (run_move) ?_
      refine WL.val rfl (run_move) ?_
      refine WL.val rfl (run_sliceSlE (lo := i) (hi := l.length) (m := cap) Try.underlying22 ty48 rfl rfl rfl rfl (by simp) (by omega) (by omega) (by omega) rfl) ?_
      refine WL.nil ?_
      repeat (first | refine CW.seq ?_ | refine CW.block ?_ | refine CW.skip ?_ | refine CW.exit ?_ | refine CW.condT rfl ?_ | refine CW.condF rfl ?_)
      refine CW.reg ?_
      refine WL.val rfl (run_move) ?_
      refine WL.val rfl (run_lenSl Try.underlying22 rfl) ?_
      refine WL.val rfl (run_assign) ?_
      refine WL.nil ?_
      repeat (first | refine CW.seq ?_ | refine CW.block ?_ | refine CW.skip ?_ | refine CW.exit ?_ | refine CW.condT rfl ?_ | refine CW.condF rfl ?_)
      refine CW.reg ?_
      refine WL.val rfl (run_move) ?_
      refine WL.val rfl (run_bF (run_eql rfl rfl) (by decide)) ?_
      refine WL.nil ?_
      repeat (first | refine CW.seq ?_ | refine CW.block ?_ | refine CW.skip ?_ | refine CW.exit ?_ | refine CW.condT rfl ?_ | refine CW.condF rfl ?_)
      refine CW.reg ?_
      refine WL.val rfl (run_move) ?_
      refine WL.val rfl (run_lenSl Try.underlying22 rfl) ?_
      refine WL.val rfl (run_assign) ?_
      refine WL.nil ?_
      repeat (first | refine CW.seq ?_ | refine CW.block ?_ | refine CW.skip ?_ | refine CW.exit ?_ | refine CW.condT rfl ?_ | refine CW.condF rfl ?_)
      refine CW.reg ?_
      refine WL.val rfl (run_move) ?_
      refine WL.val rfl (run_move) ?_
      refine WL.val rfl (run_bF (run_eql rfl rfl) (by omega)) ?_
      refine WL.nil ?_
      repeat (first | refine CW.seq ?_ | refine CW.block ?_ | refine CW.skip ?_ | refine CW.exit ?_ | refine CW.condT rfl ?_ | refine CW.condF rfl ?_)
      refine CW.reg ?_
      refine WL.val rfl (run_move) ?_
      refine WL.val rfl (run_move) ?_
      refine WL.val rfl (run_add (c := ((l.length + 1 : Nat) : Int)) rfl rfl (by omega) (by omega)) ?_
      refine WL.val rfl (run_move) ?_
      refine WL.val rfl (run_capSl Try.underlying22 rfl) ?_
      refine WL.val rfl (run_bF (run_gtr rfl rfl) (by omega)) ?_
      refine WL.nil ?_
      repeat (first | refine CW.seq ?_ | refine CW.block ?_ | refine CW.skip ?_ | refine CW.exit ?_ | refine CW.condT rfl ?_ | refine CW.condF rfl ?_)
      refine CW.reg ?_
      refine WL.val rfl (run_move) ?_
      refine WL.val rfl (run_move) ?_
      refine WL.val rfl (run_move) ?_
      refine WL.val rfl (run_add (c := ((l.length + 1 : Nat) : Int)) rfl rfl (by omega) (by omega)) ?_
      refine WL.val rfl (run_sliceSl0 (hi := l.length + 1) Try.underlying22 ty48 rfl rfl rfl (by simp) (by omega) (by omega)) ?_
      refine WL.val rfl (run_assign) ?_
      refine WL.nil ?_
      repeat (first | refine CW.seq ?_ | refine CW.block ?_ | refine CW.skip ?_ | refine CW.exit ?_ | refine CW.condT rfl ?_ | refine CW.condF rfl ?_)
      refine CW.reg ?_
      refine WL.val rfl (run_move) ?_
      refine WL.val rfl (run_move) ?_
      refine WL.val rfl (run_move) ?_
      refine WL.val rfl (run_move) ?_
      refine WL.val rfl (run_add (c := ((i + 1 : Nat) : Int)) rfl rfl (by omega) (by omega)) ?_
      refine WL.val rfl (run_sliceSlE (lo := i + 1) (hi := l.length + 1) (m := cap) Try.underlying22 ty48 rfl rfl rfl rfl (by simp) (by omega) (by omega) (by omega) hcut1) ?_
      refine WL.val rfl (run_callExt Try.func78 (by kernel_rfl) (by kernel_rfl) (by kernel_rfl) (e := Extern.SlicesOverlaps.overlaps #[22, 22] #[4]) (by kernel_rfl) rfl rfl (run_overlaps Try.underlying22 ty48 hne (hbxw hs) hs.hd (by omega))) ?_
      first | refine WL.val rfl (run_notB rfl) ?_ | refine WL.val rfl (run_not rfl) ?_
      refine WL.nil ?_
      repeat (first | refine CW.seq ?_ | refine CW.block ?_ | refine CW.skip ?_ | refine CW.exit ?_ | refine CW.condT rfl ?_ | refine CW.condF rfl ?_)
      refine CW.any (A := fun w => True) (C := fun w => Step [b] [(b, blk 48 (rows l ++ more))] w0 w) 8 9 mixedP rfl ?_
      replace hs := hs.drew
      refine AL.valA 0 rfl (by kernel_rfl) rfl (fun w hs => run_move) ?_
      refine AL.valA 1 rfl (by kernel_rfl) rfl (fun w hs => run_move) ?_
      refine AL.valA 2 rfl (by kernel_rfl) rfl (fun w hs => run_move) ?_
      refine AL.valA 3 rfl (by kernel_rfl) rfl (fun w hs => run_add (c := ((i + 1 : Nat) : Int)) rfl rfl (by omega) (by omega)) ?_
      refine AL.val 4 rfl (by kernel_rfl) rfl (fun w hs => run_sliceSlE (lo := i + 1) (hi := l.length + 1) (m := cap) Try.underlying22 ty48 rfl rfl rfl rfl (by simp) (by omega) (by omega) (by omega) hcut1) ?_
      refine AL.valA 5 rfl (by kernel_rfl) rfl (fun w hs => run_move) ?_
      refine AL.valA 6 rfl (by kernel_rfl) rfl (fun w hs => run_move) ?_
      refine AL.val 7 rfl (by kernel_rfl) rfl (fun w hs => run_sliceSlE (lo := i) (hi := l.length + 1) (m := cap) Try.underlying22 ty48 rfl rfl rfl rfl (by simp) (by omega) (by omega) (by omega) hcut2) ?_
      refine AL.one 8 (by kernel_rfl) rfl (trivial) (hs) ?_
      refine WL.copyT Try.underlying22 ty48 rfl rfl (hs) (hsrc2 hs) (hcc) (by first | omega | (simp [Ent.cells, u8s]; done)) (fun k hk => by cases hk; rfl) (fun w hs => ⟨fun k hk => ?_, fun h => by cases h⟩)
      cases hk
      refine WL.nil ?_
      refine ⟨rfl, ?_⟩
      refine AL.relax (by kernel_rfl) ?_
      refine AL.end (by kernel_rfl) (trivial) (trivial) ?_
      have e1 : splice (rows l ++ more) (0 + (i + 1) * 34) (List.take (min (l.length + 1 - i) (l.length - i) * 34) (rows (l.drop i) ++ more.take 34)) = rows (l.take i) ++ ((rows (l.drop i) ++ more).take 34) ++ (rows (l.drop i) ++ more.drop 34) := by
        rw [Nat.min_eq_right (by omega), List.take_append_of_le_length (by omega), List.take_of_length_le (l := rows (l.drop i)) (by omega)]
        have h0 : rows l ++ more = (rows (l.take i) ++ (rows (l.drop i) ++ more).take 34) ++ ((rows (l.drop i) ++ more).drop 34).take ((l.length - i) * 34) ++ more.drop 34 := by
          have h1 : ((rows (l.drop i) ++ more).drop 34).drop ((l.length - i) * 34) = more.drop 34 := by
            rw [List.drop_drop, List.drop_append, List.drop_of_length_le (by omega), List.nil_append, hdl]
            congr 1
            omega
          rw [← h1, List.append_assoc, List.append_assoc, List.take_append_drop, List.take_append_drop, ← List.append_assoc, ← rows_cut]
        rw [h0]
        have h2 := splice_mid (A := rows (l.take i) ++ (rows (l.drop i) ++ more).take 34) (M := ((rows (l.drop i) ++ more).drop 34).take ((l.length - i) * 34)) (R := more.drop 34) (vs := rows (l.drop i)) (off := 0 + (i + 1) * 34) (by simp only [List.length_append, List.length_take, htl, hdl]; omega) (by simp only [List.length_take, List.length_drop, List.length_append, hdl]; omega)
        rw [h2]
        simp only [List.append_assoc]
      replace hs := Step.blkEq e1 hs
      have hcs2 : (rows (l.take i) ++ ((rows (l.drop i) ++ more).take 34) ++ (rows (l.drop i) ++ more.drop 34)).length = cap * 34 := by
        simp only [List.length_append, List.length_take, List.length_drop, htl, hdl]
        omega
      have hxs3 := hxs hs
      repeat (first | refine CW.seq ?_ | refine CW.block ?_ | refine CW.skip ?_ | refine CW.exit ?_ | refine CW.condT rfl ?_ | refine CW.condF rfl ?_)
      refine CW.reg ?_
      refine WL.val rfl (run_move) ?_
      refine WL.val rfl (run_move) ?_
      refine WL.val rfl (run_sliceSlE (lo := i) (hi := l.length + 1) (m := cap) Try.underlying22 ty48 rfl rfl rfl rfl (by simp) (by omega) (by omega) (by omega) hcut2) ?_
      refine WL.val rfl (run_move) ?_
      refine WL.copy Try.underlying22 ty48 rfl rfl (hs) (hxs3) (x.cells1) (by first | omega | (simp [Ent.cells, u8s]; done)) (fun k hk => by cases hk; rfl) (fun w hs => ⟨fun k hk => ?_, fun h => by cases h⟩)
      cases hk
      refine WL.nil ?_
      have e2 : splice (rows (l.take i) ++ ((rows (l.drop i) ++ more).take 34) ++ (rows (l.drop i) ++ more.drop 34)) (0 + i * 34) (List.take (min 1 (l.length + 1 - i) * 34) x.cells) = rows (ins l i x) ++ more.drop 34 := by
        rw [Nat.min_eq_left (by omega), List.take_of_length_le (l := x.cells) (by omega), ins_rows]
        have h2 := splice_mid (A := rows (l.take i)) (M := (rows (l.drop i) ++ more).take 34) (R := rows (l.drop i) ++ more.drop 34) (vs := x.cells) (off := 0 + i * 34) (by omega) (by simp only [List.length_take, List.length_append, hdl]; omega)
        rw [h2]
        simp only [List.append_assoc]
      replace hs := Step.blkEq e2 hs
      repeat (first | refine CW.seq ?_ | refine CW.block ?_ | refine CW.skip ?_ | refine CW.exit ?_ | refine CW.condT rfl ?_ | refine CW.condF rfl ?_)
      refine CW.reg ?_
      refine WL.val rfl (run_move) ?_
      refine WL.val rfl (run_assign) ?_
      refine WL.nil ?_
      repeat (first | refine CW.seq ?_ | refine CW.block ?_ | refine CW.skip ?_ | refine CW.exit ?_ | refine CW.condT rfl ?_ | refine CW.condF rfl ?_)
      refine CW.ret ?_
      refine fin_ret1 rfl ?_
      have hu : OwnSl 48 34 (.slice (some ⟨b, 0, none⟩) (l.length + 1) cap) (l.length + 1) (rows (ins l i x)) [(b, blk 48 (rows (ins l i x) ++ more.drop 34))] := ⟨hil, .inr ⟨b, cap, more.drop 34, rfl, rfl, by rw [List.length_append, hil, List.length_drop]; omega⟩⟩
      exact ⟨.slice (some ⟨b, 0, none⟩) (l.length + 1) cap, _, rfl, hu, hs⟩
end Go.Gx
