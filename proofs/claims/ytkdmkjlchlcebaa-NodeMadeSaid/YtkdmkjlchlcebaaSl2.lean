/- Library functions of slices at entries: Delete, Insert. -/
import Derived.Test.YtkdmkjlchlcebaaSl1
namespace Go.Gx
open Go.Proofs
set_option linter.unusedVariables false
set_option linter.unusedSimpArgs false
set_option maxRecDepth 100000

theorem splice_mid {A M R vs : List Value} {off : Nat} (ho : off = A.length) (h : vs.length = M.length) : splice (A ++ M ++ R) off vs = A ++ vs ++ R := by
  subst ho
  simp [splice, List.append_assoc, h]
theorem Step.blkEq {S : List Nat} {b : Nat} {T : TypeId} {cs cs' : List Value} {L : List (Nat × Obj)} {w0 w : World} (e : cs = cs') (h : Step S ((b, blk T cs) :: L) w0 w) : Step S ((b, blk T cs') :: L) w0 w := e ▸ h
theorem rows_take_len {l : List Ent} (h : Oks l) {i : Nat} (hi : i ≤ l.length) : (rows (l.take i)).length = i * 34 := by
  rw [rows_len (h.take i), List.length_take, Nat.min_eq_left hi]
theorem rows_drop_len {l : List Ent} (h : Oks l) (i : Nat) : (rows (l.drop i)).length = (l.length - i) * 34 := by
  rw [rows_len (h.drop i), List.length_drop]
theorem rows_cut (l : List Ent) (i : Nat) : rows l = rows (l.take i) ++ rows (l.drop i) := by rw [← rows_append, List.take_append_drop]
theorem rows_drop {l : List Ent} (h : Oks l) {i : Nat} (hi : i ≤ l.length) : (rows l).drop (i * 34) = rows (l.drop i) := by
  rw [rows_cut l i, ← rows_take_len h hi, List.drop_left]
theorem rows_take {l : List Ent} (h : Oks l) {i : Nat} (hi : i ≤ l.length) : (rows l).take (i * 34) = rows (l.take i) := by
  rw [rows_cut l i, ← rows_take_len h hi, List.take_left]

def del (l : List Ent) (i : Nat) : List Ent := l.take i ++ l.drop (i + 1)
def ins (l : List Ent) (i : Nat) (x : Ent) : List Ent := l.take i ++ x :: l.drop i

theorem deleteE_spec {b cap i : Nat} {l : List Ent} {more : List Value} (w0 : World) (hi : i < l.length) (ho : Oks l) (hbb : l.length ≤ 1000000) (hO : Step [b] [(b, blk 48 (rows l ++ more))] w0 w0) (hcap : (rows l ++ more).length = cap * 34) :
    Calls Try.prog 57 #[.slice (some ⟨b, 0, none⟩) l.length cap, .int .i64 i, .int .i64 (i + 1 : Nat)] w0 fun e w' => ∃ u Lu, e = .returned u ∧ OwnSl 48 34 u (del l i).length (rows (del l i)) Lu ∧ Step [b] Lu w0 w' := by
  have hs := hO
  have hrl := rows_len ho
  have hcl : l.length ≤ cap := by
    rw [List.length_append, hrl] at hcap
    omega
  have htl := rows_take_len ho (Nat.le_of_lt hi)
  have hdl := rows_drop_len ho (i + 1)
  have hdl0 := rows_drop_len ho i
  have hdel : (del l i).length = l.length - 1 := by simp [del]; omega
  have hcut : cutSl 34 b 0 (i + (l.length - (i + 1))) l.length cap = .slice (some ⟨b, 0 + (l.length - 1) * 34, none⟩) 1 (cap - (l.length - 1)) := by
    rw [show i + (l.length - (i + 1)) = l.length - 1 by omega, cutSl, if_neg (by omega), show l.length - (l.length - 1) = 1 by omega]
  have e0 : rows l ++ more = rows (l.take i) ++ (rows (l.drop i) ++ more) := by rw [← List.append_assoc, ← rows_cut]
  have hat : ∀ {w : World} {L : List (Nat × Obj)}, Step [b] ((b, blk 48 (rows l ++ more)) :: L) w0 w → At w b 0 (rows l) := fun hs => (At.of_blk hs.hd).left
  have hsrc : ∀ w, Step [b] [(b, blk 48 (rows l ++ more))] w0 w → Sl w 34 (cutSl 34 b 0 (i + 1) l.length cap) (l.length - (i + 1)) (rows (l.drop (i + 1))) := fun w hs => by
    have h1 := Sl.cut (sz := 34) (lo := i + 1) (hi := l.length) (m := cap) (hat hs) hrl (by omega) (Nat.le_refl _) hcl
    rw [rows_take ho (Nat.le_refl _), List.take_length, rows_drop ho (by omega)] at h1
    exact h1
  refine calls (n := 33) Try.func57 rfl rfl rfl ?_
  repeat (first | refine CW.seq ?_ | refine CW.block ?_ | refine CW.skip ?_ | refine CW.exit ?_ | refine CW.condT rfl ?_ | refine CW.condF rfl ?_)
  refine CW.reg ?_
  refine WL.val rfl (run_assign) ?_
  refine WL.nil ?_
  repeat (first | refine CW.seq ?_ | refine CW.block ?_ | refine CW.skip ?_ | refine CW.exit ?_ | refine CW.condT rfl ?_ | refine CW.condF rfl ?_)
  refine CW.reg ?_
  refine WL.val rfl (run_move) ?_
  refine WL.val rfl (run_move) ?_
  refine WL.val rfl (run_move) ?_
  refine WL.val rfl (run_move) ?_
  refine WL.val rfl (run_lenSl Try.underlying22 rfl) ?_
  refine WL.val rfl (run_sliceSlE (lo := i) (hi := i + 1) (m := l.length) Try.underlying22 ty48 rfl rfl rfl rfl (by simp) (by omega) (by omega) (by omega) rfl) ?_
  refine WL.nil ?_
  repeat (first | refine CW.seq ?_ | refine CW.block ?_ | refine CW.skip ?_ | refine CW.exit ?_ | refine CW.condT rfl ?_ | refine CW.condF rfl ?_)
  refine CW.reg ?_
  refine WL.val rfl (run_move) ?_
  refine WL.val rfl (run_move) ?_
  refine WL.val rfl (run_bF (run_eql rfl rfl) (by omega)) ?_
  refine WL.nil ?_
  repeat (first | refine CW.seq ?_ | refine CW.block ?_ | refine CW.skip ?_ | refine CW.exit ?_ | refine CW.condT rfl ?_ | refine CW.condF rfl ?_)
  refine CW.reg ?_
  refine WL.val rfl (run_move) ?_
  refine WL.val rfl (run_lenSl Try.underlying22 rfl) ?_
  refine WL.val rfl (run_assign) ?_
  refine WL.nil ?_
  repeat (first | refine CW.seq ?_ | refine CW.block ?_ | refine CW.skip ?_ | refine CW.exit ?_ | refine CW.condT rfl ?_ | refine CW.condF rfl ?_)
  refine CW.any (A := fun w => True) (C := fun w => Step [b] [(b, blk 48 (rows l ++ more))] w0 w) 6 8 mixedP rfl ?_
  replace hs := hs.drew
  refine AL.valA 0 rfl (by kernel_rfl) rfl (fun w hs => run_move) ?_
  refine AL.valA 1 rfl (by kernel_rfl) rfl (fun w hs => run_move) ?_
  refine AL.val 2 rfl (by kernel_rfl) rfl (fun w hs => run_sliceSl0  Try.underlying22 ty48 rfl rfl rfl (by simp) (by omega) (by omega)) ?_
  refine AL.valA 3 rfl (by kernel_rfl) rfl (fun w hs => run_move) ?_
  refine AL.valA 4 rfl (by kernel_rfl) rfl (fun w hs => run_move) ?_
  refine AL.val 5 rfl (by kernel_rfl) rfl (fun w hs => run_sliceSlE (lo := i + 1) (hi := l.length) (m := cap) Try.underlying22 ty48 rfl rfl rfl rfl (by simp) (by omega) (by omega) (by omega) rfl) ?_
  refine AL.one 6 (by kernel_rfl) rfl (trivial) (hs) ?_
  have hsl := hsrc _ hs
  replace hs := Step.blkEq e0 hs
  refine WL.appendIn Try.underlying22 Try.underlying22 ty48 rfl rfl rfl (htl) hs ((by rw [← e0]; exact hcap)) (hsl) (rows_cells1 _) (by omega) rfl (fun w hs => ?_)
  refine WL.nil ?_
  refine ⟨rfl, ?_⟩
  refine AL.relax (by kernel_rfl) ?_
  refine AL.valA 7 rfl (by kernel_rfl) rfl (fun w hs => run_assign) ?_
  refine AL.end (by kernel_rfl) (trivial) (trivial) ?_
  have hml : (rows (l.drop i) ++ more).drop (rows (l.drop (i + 1))).length = (rows (l.drop i) ++ more).drop ((l.length - (i + 1)) * 34) := by rw [hdl]
  generalize hm2 : (rows (l.drop i) ++ more).drop (rows (l.drop (i + 1))).length = more2 at hs
  have hm2l : 34 ≤ more2.length := by
    rw [← hm2, hdl]
    simp only [List.length_drop, List.length_append, hdl0]
    omega
  have hcs : (rows (l.take i) ++ rows (l.drop (i + 1)) ++ more2).length = (l.length - 1) * 34 + more2.length := by
    simp only [List.length_append, htl, hdl]
    omega
  have hcapl : (l.length - 1) * 34 + more2.length = cap * 34 := by
    rw [← hm2, hdl]
    rw [e0] at hcap
    simp only [List.length_drop, List.length_append, htl, hdl0] at hcap ⊢
    omega
  repeat (first | refine CW.seq ?_ | refine CW.block ?_ | refine CW.skip ?_ | refine CW.exit ?_ | refine CW.condT rfl ?_ | refine CW.condF rfl ?_)
  refine CW.reg ?_
  refine WL.val rfl (run_move) ?_
  refine WL.val rfl (run_move) ?_
  refine WL.val rfl (run_lenSl Try.underlying22 rfl) ?_
  refine WL.val rfl (run_move) ?_
  refine WL.val rfl (run_sliceSlE (lo := i + (l.length - (i + 1))) (hi := l.length) (m := cap) Try.underlying22 ty48 rfl rfl rfl rfl (by simp) (by omega) (by omega) (by omega) hcut) ?_
  refine WL.clear Try.underlying22 ty48 rfl rfl hs (by omega) (by omega) rfl (fun w hs => ?_)
  refine WL.nil ?_
  repeat (first | refine CW.seq ?_ | refine CW.block ?_ | refine CW.skip ?_ | refine CW.exit ?_ | refine CW.condT rfl ?_ | refine CW.condF rfl ?_)
  refine CW.reg ?_
  refine WL.val rfl (run_move) ?_
  refine WL.val rfl (run_assign) ?_
  refine WL.nil ?_
  repeat (first | refine CW.seq ?_ | refine CW.block ?_ | refine CW.skip ?_ | refine CW.exit ?_ | refine CW.condT rfl ?_ | refine CW.condF rfl ?_)
  refine CW.ret ?_
  refine fin_ret1 rfl ?_
  have hdr : rows (del l i) = rows (l.take i) ++ rows (l.drop (i + 1)) := by rw [del, rows_append]
  have hz : (List.replicate 1 ([str [], .int .i64 0] ++ List.replicate 32 (Value.int .u8 0))).flatten.length = 34 := rfl
  have hsp := splice_end (rows (del l i)) more2 (List.replicate 1 ([str [], .int .i64 0] ++ List.replicate 32 (Value.int .u8 0))).flatten (by rw [hz]; omega)
  have hdll : (rows (del l i)).length = (l.length - 1) * 34 := by rw [hdr, List.length_append, htl, hdl]; omega
  rw [hdll, hdr] at hsp
  rw [Nat.zero_add, hsp] at hs
  have hlen : i + (l.length - (i + 1)) = (del l i).length := by rw [hdel]; omega
  have hu : OwnSl 48 34 (.slice (some ⟨b, 0, none⟩) (i + (l.length - (i + 1))) cap) (del l i).length (rows (del l i)) [(b, blk 48 (rows (l.take i) ++ rows (l.drop (i + 1)) ++ (List.replicate 1 ([str [], .int .i64 0] ++ List.replicate 32 (Value.int .u8 0))).flatten ++ more2.drop (List.replicate 1 ([str [], .int .i64 0] ++ List.replicate 32 (Value.int .u8 0))).flatten.length))] := by
    refine ⟨by rw [hdel]; exact hdll, .inr ⟨b, cap, (List.replicate 1 ([str [], .int .i64 0] ++ List.replicate 32 (Value.int .u8 0))).flatten ++ more2.drop (List.replicate 1 ([str [], .int .i64 0] ++ List.replicate 32 (Value.int .u8 0))).flatten.length, by rw [hlen], by rw [hdr, List.append_assoc (rows (l.take i) ++ rows (l.drop (i + 1)))], ?_⟩⟩
    rw [hdr]
    simp only [List.length_append, htl, hdl, hz, List.length_drop]
    omega
  exact ⟨.slice (some ⟨b, 0, none⟩) (i + (l.length - (i + 1))) cap, _, rfl, hu, hs⟩
end Go.Gx
