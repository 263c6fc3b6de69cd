/- The program's hash: a block turns the state. The program's hash: New, Write. The filling and the digest's bytes: plain laws. No program in sight. The program's hash: New, Sum. The program's hash: Of one part. More operations on slices: compared with nil, append in its room, append of zeros, clear, a library function without a Go body. No program in sight. Digests: compared, cut, fitting. The document's hash: turned, round, block. The document's filling. The document's hash: Of. Digests: fitting (both sides), the document's Cut and Front. -/
import Derived.Test.YtakhjiecinpmiaaM1
import Derived.Lib.SliceRun
import Derived.Lib.Overlaps
import Derived.Laws.Externs
import Derived.DeepKeys
/-! Sum3 -/
namespace Go.Gx
open Go.Proofs
set_option linter.unusedVariables false
set_option linter.unusedSimpArgs false
set_option maxRecDepth 100000

theorem hcs_rest {s : St8} {bg : Bool} {rest : List UInt8} {n j : Nat} (hj : j < rest.length) : (hcs s bg rest n)[9 + j]? = some (.int .u8 (rest.getD j 0).toNat) := by
  rw [Nat.add_comm 9 j]
  show (u8s rest ++ [Value.int .i64 n])[j]? = _
  rw [List.getElem?_append_left (by rw [u8s, List.length_map]; exact hj), u8s_get hj]

theorem rsp {a : Wd} (n : Nat) (h1 : 1 ≤ n) (h2 : n ≤ 31) (w : World) : Calls Try.prog 99 #[wv a, .int .i64 n] w (Ret0 (wv (rotr a n)) w) := right_spec h1 h2 w
theorem wNext_eq (l : List Wd) (t : Nat) : l.getD (t - 16) 0 + (rotr (l.getD (t - 15) 0) 7 ^^^ rotr (l.getD (t - 15) 0) 18 ^^^ l.getD (t - 15) 0 >>> 3) + l.getD (t - 7) 0 + (rotr (l.getD (t - 2) 0) 17 ^^^ rotr (l.getD (t - 2) 0) 19 ^^^ l.getD (t - 2) 0 >>> 10) = wNext l t := rfl
theorem schedA_set {b : List UInt8} {t : Nat} {x : Wd} (h : t < 64) : (schedA b t).set t x = schedM b t x := by rw [← schedM_zero h, schedM_set h]
theorem stRounds_succ (s : St8) (W : List Wd) (t : Nat) : stRounds s W (t + 1) = stStep (stRounds s W t) (kL.getD t 0) (W.getD t 0) := rfl
theorem stRounds_zero (s : St8) (W : List Wd) : stRounds s W 0 = s := rfl
theorem stBlock_eq (s : St8) (b : List UInt8) : stBlock s b = stAdd s (stRounds s (sched b 64) 64) := rfl
def mixW (s S r : St8) (i : Nat) : List Wd := (stAdd S r).l.take i ++ s.l.drop i
theorem mixW_set {s S r : St8} {i : Nat} {l : List Value} (hi : i < 8) : (wvs (mixW s S r i) ++ l).set (0 + 0 + i * 1) (wv (S.l.getD i 0 + r.l.getD i 0)) = wvs (mixW s S r (i + 1)) ++ l := by
  match i, hi with
  | 0, _ => rfl
  | 1, _ => rfl
  | 2, _ => rfl
  | 3, _ => rfl
  | 4, _ => rfl
  | 5, _ => rfl
  | 6, _ => rfl
  | 7, _ => rfl
theorem mixW_len {s S r : St8} {i : Nat} (hi : i ≤ 8) : (wvs (mixW s S r i)).length = 8 := by
  rw [wvs_len, mixW, List.length_append, List.length_take, List.length_drop]
  show min i 8 + (8 - i) = 8
  omega
theorem St8_get {r : St8} {i : Nat} (hi : i < 8) : (wvs r.l)[i]? = some (wv (r.l.getD i 0)) := wvs_get hi
theorem accW_zero (b : List UInt8) (o : Nat) : accW b o 0 = 0 := rfl
theorem accW_succ (b : List UInt8) (o k : Nat) : accW b o (k + 1) = accW b o k <<< 8 ||| byW (b.getD (o + k) 0) := rfl
theorem wvs_kL : (wvs kL).length = 64 := rfl
theorem schedA_zero (b : List UInt8) : List.replicate 64 (Value.int .u32 0) = wvs (schedA b 0) := rfl
attribute [local irreducible] kL sched schedA schedM accW wordB wNext stRounds stBlock

theorem block_words {b : Nat} {s : St8} {bg : Bool} {rest : List UInt8} {n : Nat} (hr : rest.length = 64) (w0 : World) (hb : w0.heap[b]? = some (blk 129 (hcs s bg rest n))) :
    Calls Try.prog 78 #[.pointer (some ⟨b, 0, none⟩), .slice (some ⟨b, 9, none⟩) 64 64] w0 (fun e w' => e = .returned (.tuple #[]) ∧ Step [b] [(b, blk 129 (hcs (stBlock (cur bg s) rest) true rest n))] w0 w') := by
  have hs : Step [b] [(b, blk 129 (hcs s bg rest n))] w0 w0 := Step.start (L := [(b, blk 129 (hcs s bg rest n))]) (by simp) (by simpa using hb)
  refine calls (n := 195) Try.func78 rfl rfl rfl ?_
  refine CW.seq ?_
  refine CW.reg ?_
  refine WL.enter rfl (run_call en98 rfl rfl) (rounds_spec _) ?_
  rintro e w ⟨rfl, hq⟩
  refine ⟨_, rfl, ?_⟩
  replace hs := hs.callE hq
  refine WL.alloc ty145 rfl hs (fun b4 w hs => ?_)
  refine WL.storeAll ty145 rfl rfl ((wvs_kL)) (Cells1.wvs _) hs (by first | rfl | assumption) (fun w hs => ?_)
  refine WL.nil ?_
  refine CW.seq ?_
  refine CW.reg ?_
  refine WL.alloc ty145 rfl hs (fun b5 w hs => ?_)
  refine WL.nil ?_
  rw [schedA_zero rest] at hs
  refine CW.seq <| CW.seq ?_
  refine CW.reg ?_
  refine WL.val rfl (run_move) ?_
  refine WL.nil ?_
  refine CW.block ?_
  refine CW.loop (fun m f w' => ∃ t, t ≤ 16 ∧ m = 16 - t ∧ Step [b] [(b5, blk 145 (wvs (schedA rest t))), (b4, blk 145 (wvs kL)), (b, blk 129 (hcs s bg rest n))] w0 w' ∧ Holds f [(0, .pointer (some ⟨b, 0, none⟩)), (1, .slice (some ⟨b, 9, none⟩) 64 64), (4, .pointer (some ⟨b4, 0, none⟩)), (5, .pointer (some ⟨b5, 0, none⟩)), (22, .int .i64 (t : Nat))]) (m := 16) ?_ ?_
  · exact ⟨0, by omega, rfl, hs, rfl, rfl, rfl, rfl, rfl, trivial⟩
  · clear hs
    rintro m f w ⟨t, ht, rfl, hs, hf⟩
    have hobt := hf.chain
    obtain ⟨g, rfl⟩ := hobt
    refine CW.seq ?_
    refine CW.reg ?_
    refine WL.val rfl (run_lss rfl rfl) ?_
    refine WL.nil ?_
    refine CW.seq ?_
    refine CW.condP rfl (fun h => ?_) (fun h => ?_)
    · have hlt : t < 16 := by omega
      have hcut : cutSl 1 b 9 (4 * t) (4 * t + 4) 64 = .slice (some ⟨b, 9 + 4 * t, none⟩) 4 (64 - 4 * t) := by
        rw [cutSl, if_neg (by omega), Nat.mul_one, show 4 * t + 4 - 4 * t = 4 by omega]
      repeat (first | refine CW.seq ?_ | refine CW.block ?_ | refine CW.skip ?_)
      refine CW.reg ?_
      refine WL.val rfl (run_move) ?_
      refine WL.val rfl (run_assign) ?_
      refine WL.nil ?_
      refine CW.seq ?_
      refine CW.reg ?_
      refine WL.val rfl (run_move) ?_
      refine WL.val rfl (run_move) ?_
      refine WL.val rfl (run_mul (c := ((4 * t : Nat) : Int)) rfl rfl (by omega) (by omega)) ?_
      refine WL.val rfl (run_move) ?_
      refine WL.val rfl (run_mul (c := ((4 * t : Nat) : Int)) rfl rfl (by omega) (by omega)) ?_
      refine WL.val rfl (run_add (c := ((4 * t + 4 : Nat) : Int)) rfl rfl (by omega) (by omega)) ?_
      refine WL.val rfl (run_sliceSlE (lo := 4 * t) (hi := 4 * t + 4) (m := 64) Try.underlying22 ty5 rfl rfl rfl rfl (by simp) (by omega) (by omega) (by omega) hcut) ?_
      refine WL.val rfl (run_lenSl Try.underlying22 rfl) ?_
      refine WL.val rfl (run_move) ?_
      refine WL.nil ?_
      rw [← schedM_zero (by omega)] at hs
      refine CW.block ?_
      refine CW.loop (fun m f w' => ∃ k, k ≤ 4 ∧ m = 4 - k ∧ Step [b] [(b5, blk 145 (wvs (schedM rest t (accW rest (4 * t) k)))), (b4, blk 145 (wvs kL)), (b, blk 129 (hcs s bg rest n))] w0 w' ∧ Holds f [(0, .pointer (some ⟨b, 0, none⟩)), (1, .slice (some ⟨b, 9, none⟩) 64 64), (4, .pointer (some ⟨b4, 0, none⟩)), (5, .pointer (some ⟨b5, 0, none⟩)), (6, .int .i64 (t : Nat)), (22, .int .i64 (t : Nat)), (31, .slice (some ⟨b, 9 + 4 * t, none⟩) 4 (64 - 4 * t)), (32, .int .i64 (4 : Nat)), (33, .int .i64 (k : Nat))]) (m := 4) ?_ ?_
      · exact ⟨0, by omega, rfl, by rw [accW_zero]; exact hs, rfl, rfl, rfl, rfl, rfl, rfl, rfl, rfl, rfl, trivial⟩
      · clear hs
        rintro m f w ⟨k, hk, rfl, hs, hf⟩
        have hobt := hf.chain
        obtain ⟨g, rfl⟩ := hobt
        refine CW.seq ?_
        refine CW.reg ?_
        refine WL.val rfl (run_lss rfl rfl) ?_
        refine WL.nil ?_
        refine CW.seq ?_
        refine CW.condP rfl (fun h2 => ?_) (fun h2 => ?_)
        · have hlk : k < 4 := by omega
          have hc1 : (hcs s bg rest n)[9 + 4 * t + k * 1]? = some (.int .u8 (rest.getD (4 * t + k) 0).toNat) := by
            rw [Nat.mul_one, Nat.add_assoc]; exact hcs_rest (by omega)
          have hln : (wvs (schedM rest t (accW rest (4 * t) k))).length = 64 := by rw [wvs_len, schedM_len (by omega)]
          have hc2 : (wvs (schedM rest t (accW rest (4 * t) k)))[0 + t * 1]? = some (wv (accW rest (4 * t) k)) := by
            rw [Nat.mul_one, Nat.zero_add, wvs_get (by rw [schedM_len (by omega)]; omega), schedM_at]
          have hset : (wvs (schedM rest t (accW rest (4 * t) k))).set (0 + t * 1) (wv (accW rest (4 * t) k <<< 8 ||| byW (rest.getD (4 * t + k) 0))) = wvs (schedM rest t (accW rest (4 * t) (k + 1))) := by
            rw [Nat.mul_one, Nat.zero_add, wvs_set, schedM_set (by omega), accW_succ]
          repeat (first | refine CW.seq ?_ | refine CW.block ?_ | refine CW.skip ?_)
          refine CW.reg ?_
          refine WL.val rfl (run_ixSlN Try.underlying22 ty5 rfl rfl (by omega)) ?_
          refine WL.val rfl (run_load1 ty5 rfl (hs.c2 hc1)) ?_
          refine WL.val rfl (run_assign) ?_
          refine WL.nil ?_
          refine CW.reg ?_
          refine WL.val rfl (run_move) ?_
          refine WL.val rfl (run_move) ?_
          refine WL.val rfl (run_ixArrN Try.underlying145 ty124 rfl rfl (by omega)) ?_
          refine WL.val rfl (run_load1 ty124 rfl (hs.c0 hc2)) ?_
          refine WL.val rfl (run_shl32 (n := 8) (by decide) rfl rfl) ?_
          refine WL.val rfl (run_move) ?_
          refine WL.val rfl (run_to32 Try.underlying5 Try.underlying124 rfl) ?_
          refine WL.val rfl (run_or32 rfl rfl) ?_
          refine WL.val rfl (run_ixArrN Try.underlying145 ty124 rfl rfl (by omega)) ?_
          refine WL.store1 ty124 rfl rfl (rfl) hs (by first | (simp; done) | omega | (simp only [List.length_append, List.length_replicate, List.length_cons, List.length_nil, List.length_set]; omega) | (simp [Ent.cells, u8s]; done) | exact Nat.le_of_ble_eq_true rfl) (fun w hs => ?_)
          refine WL.nil ?_
          replace hs := (congrArg (fun cs => Step [b] [(b5, blk 145 cs), (b4, blk 145 (wvs kL)), (b, blk 129 (hcs s bg rest n))] w0 w) hset).mp hs
          refine CW.reg ?_
          refine WL.val rfl (run_add (c := ((k + 1 : Nat) : Int)) rfl rfl (by omega) (by omega)) ?_
          refine WL.val rfl (run_move) ?_
          refine WL.nil ?_
          refine (show _ ∧ _ from ⟨rfl, _, ?_, k + 1, by omega, rfl, hs, rfl, rfl, rfl, rfl, rfl, rfl, rfl, rfl, rfl, trivial⟩)
          omega
        · obtain rfl : k = 4 := by omega
          rw [accW_word, schedM_word hlt] at hs
          refine CW.exit ?_
          refine CW.reg ?_
          refine WL.val rfl (run_add (c := ((t + 1 : Nat) : Int)) rfl rfl (by omega) (by omega)) ?_
          refine WL.val rfl (run_move) ?_
          refine WL.nil ?_
          refine (show _ ∧ _ from ⟨rfl, _, ?_, t + 1, by omega, rfl, hs, rfl, rfl, rfl, rfl, rfl, trivial⟩)
          omega
    · obtain rfl : t = 16 := by omega
      repeat (first | refine CW.seq ?_ | refine CW.exit ?_)
      refine CW.reg ?_
      refine WL.val rfl (run_assign) ?_
      refine WL.nil ?_
      refine CW.seq <| CW.seq ?_
      refine CW.reg ?_
      refine WL.val rfl (run_assign) ?_
      refine WL.nil ?_
      refine CW.block ?_
      refine CW.loop (fun m f w' => ∃ t, 16 ≤ t ∧ t ≤ 64 ∧ m = 64 - t ∧ Step [b] [(b5, blk 145 (wvs (schedA rest t))), (b4, blk 145 (wvs kL)), (b, blk 129 (hcs s bg rest n))] w0 w' ∧ Holds f [(0, .pointer (some ⟨b, 0, none⟩)), (1, .slice (some ⟨b, 9, none⟩) 64 64), (4, .pointer (some ⟨b4, 0, none⟩)), (5, .pointer (some ⟨b5, 0, none⟩)), (9, .func (.func 99) #[] #[]), (10, .int .i64 (t : Nat))]) (m := 48) ?_ ?_
      · exact ⟨16, by omega, by omega, rfl, hs, rfl, rfl, rfl, rfl, rfl, rfl, trivial⟩
      · clear hs
        rintro m f w ⟨t, ht1, ht, rfl, hs, hf⟩
        have hobt := hf.chain
        obtain ⟨g, rfl⟩ := hobt
        refine CW.seq <| CW.seq ?_
        refine CW.reg ?_
        refine WL.val rfl (run_move) ?_
        refine WL.val rfl (run_lss rfl rfl) ?_
        refine WL.nil ?_
        refine CW.condP rfl (fun h => ?_) (fun h => ?_)
        · have hlt : t < 64 := by omega
          have hobt : ∃ l, schedA rest t = l := ⟨_, rfl⟩
          obtain ⟨l, hl⟩ := hobt
          have hll : l.length = 64 := by rw [← hl]; exact schedA_len ht
          rw [hl] at hs
          have hg : ∀ j, j ≤ t → (wvs l)[0 + (t - j) * 1]? = some (wv (l.getD (t - j) 0)) := fun j hj => by rw [Nat.mul_one, Nat.zero_add]; exact wvs_get (by omega)
          have hset : (wvs l).set (0 + t * 1) (wv (l.getD (t - 16) 0 + (rotr (l.getD (t - 15) 0) 7 ^^^ rotr (l.getD (t - 15) 0) 18 ^^^ l.getD (t - 15) 0 >>> 3) + l.getD (t - 7) 0 + (rotr (l.getD (t - 2) 0) 17 ^^^ rotr (l.getD (t - 2) 0) 19 ^^^ l.getD (t - 2) 0 >>> 10))) = wvs (schedA rest (t + 1)) := by
            rw [wNext_eq, Nat.mul_one, Nat.zero_add, wvs_set, ← hl, schedA_set hlt, wNext_A ht1, schedM_next ht1]
          have hwl : (wvs l).length = 64 := by rw [wvs_len, hll]
          repeat (first | refine CW.seq ?_ | refine CW.block ?_ | refine CW.skip ?_)
          refine CW.quiet mixedP (by kernel_rfl) hs ?_
          refine QL.val rfl (fun w hs => run_move) ?_
          refine QL.val rfl (fun w hs => run_sub (c := ((t - 15 : Nat) : Int)) rfl rfl (by omega) (by omega)) ?_
          refine QL.val rfl (fun w hs => run_ixArrN Try.underlying145 ty124 rfl rfl (by omega)) ?_
          refine QL.val rfl (fun w hs => run_load1 ty124 rfl (hs.c0 (hg 15 (by omega)))) ?_
          refine QL.val rfl (fun w hs => run_move) ?_
          refine QL.val rfl (fun w hs => run_sub (c := ((t - 2 : Nat) : Int)) rfl rfl (by omega) (by omega)) ?_
          refine QL.val rfl (fun w hs => run_ixArrN Try.underlying145 ty124 rfl rfl (by omega)) ?_
          refine QL.val rfl (fun w hs => run_load1 ty124 rfl (hs.c0 (hg 2 (by omega)))) ?_
          refine QL.val rfl (fun w hs => run_assign) ?_
          refine QL.val rfl (fun w hs => run_assign) ?_
          refine QL.nil (fun w hs => ?_)
          refine CW.quietT (l1 := [_, _, _, _, _, _, _, _, _, _, _, _, _, _, _, _, _, _, _, _, _, _, _, _, _, _, _, _, _, _, _, _, _]) (l2 := [_]) 33 rfl mixedP rfl (by kernel_rfl) hs ?_
          refine QL.val rfl (fun w hs => run_move) ?_
          refine QL.val rfl (fun w hs => run_move) ?_
          refine QL.val rfl (fun w hs => run_sub (c := ((t - 16 : Nat) : Int)) rfl rfl (by omega) (by omega)) ?_
          refine QL.val rfl (fun w hs => run_ixArrN Try.underlying145 ty124 rfl rfl (by omega)) ?_
          refine QL.val rfl (fun w hs => run_load1 ty124 rfl (hs.c0 (hg 16 (by omega)))) ?_
          refine QL.val rfl (fun w hs => run_move) ?_
          refine QL.val rfl (fun w hs => run_move) ?_
          refine QL.enter rfl (fun w => run_callV (cap := []) en99 rfl rfl) (fun w hs => rsp 7 (by decide) (by decide) _) ?_
          refine QL.val rfl (fun w hs => run_move) ?_
          refine QL.val rfl (fun w hs => run_move) ?_
          refine QL.enter rfl (fun w => run_callV (cap := []) en99 rfl rfl) (fun w hs => rsp 18 (by decide) (by decide) _) ?_
          refine QL.val rfl (fun w hs => run_xor32 rfl rfl) ?_
          refine QL.val rfl (fun w hs => run_move) ?_
          refine QL.val rfl (fun w hs => run_shr32 (n := 3) (by decide) rfl rfl) ?_
          refine QL.val rfl (fun w hs => run_xor32 rfl rfl) ?_
          refine QL.val rfl (fun w hs => run_add32 rfl rfl) ?_
          refine QL.val rfl (fun w hs => run_move) ?_
          refine QL.val rfl (fun w hs => run_sub (c := ((t - 7 : Nat) : Int)) rfl rfl (by omega) (by omega)) ?_
          refine QL.val rfl (fun w hs => run_ixArrN Try.underlying145 ty124 rfl rfl (by omega)) ?_
          refine QL.val rfl (fun w hs => run_load1 ty124 rfl (hs.c0 (hg 7 (by omega)))) ?_
          refine QL.val rfl (fun w hs => run_add32 rfl rfl) ?_
          refine QL.val rfl (fun w hs => run_move) ?_
          refine QL.val rfl (fun w hs => run_move) ?_
          refine QL.enter rfl (fun w => run_callV (cap := []) en99 rfl rfl) (fun w hs => rsp 17 (by decide) (by decide) _) ?_
          refine QL.val rfl (fun w hs => run_move) ?_
          refine QL.val rfl (fun w hs => run_move) ?_
          refine QL.enter rfl (fun w => run_callV (cap := []) en99 rfl rfl) (fun w hs => rsp 19 (by decide) (by decide) _) ?_
          refine QL.val rfl (fun w hs => run_xor32 rfl rfl) ?_
          refine QL.val rfl (fun w hs => run_move) ?_
          refine QL.val rfl (fun w hs => run_shr32 (n := 10) (by decide) rfl rfl) ?_
          refine QL.val rfl (fun w hs => run_xor32 rfl rfl) ?_
          refine QL.val rfl (fun w hs => run_add32 rfl rfl) ?_
          refine QL.val rfl (fun w hs => run_ixArrN Try.underlying145 ty124 rfl rfl (by omega)) ?_
          refine QL.nil (fun w hs => ?_)
          refine WL.store1 ty124 rfl rfl (rfl) hs (by first | (simp; done) | omega | (simp only [List.length_append, List.length_replicate, List.length_cons, List.length_nil, List.length_set]; omega) | (simp [Ent.cells, u8s]; done) | exact Nat.le_of_ble_eq_true rfl) (fun w hs => ?_)
          refine WL.nil ?_
          replace hs := (congrArg (fun cs => Step [b] [(b5, blk 145 cs), (b4, blk 145 (wvs kL)), (b, blk 129 (hcs s bg rest n))] w0 w) hset).mp hs
          refine CW.reg ?_
          refine WL.val rfl (run_move) ?_
          refine WL.val rfl (run_add (c := ((t + 1 : Nat) : Int)) rfl rfl (by omega) (by omega)) ?_
          refine WL.val rfl (run_assign) ?_
          refine WL.nil ?_
          refine (show _ ∧ _ from ⟨rfl, _, ?_, t + 1, by omega, by omega, rfl, hs, rfl, rfl, rfl, rfl, rfl, rfl, trivial⟩)
          omega
        · obtain rfl : t = 64 := by omega
          have hobt : ∃ W, sched rest 64 = W := ⟨_, rfl⟩
          obtain ⟨W, hW⟩ := hobt
          have hWl : W.length = 64 := by rw [← hW]; exact sched_len _ _
          rw [schedA_all, hW] at hs
          have hobt : ∃ S, cur bg s = S := ⟨_, rfl⟩
          obtain ⟨S, hS⟩ := hobt
          rw [stBlock_eq, hW, hS]
          repeat (first | refine CW.seq ?_ | refine CW.exit ?_)
          refine CW.reg ?_
          refine WL.val rfl (run_move) ?_
          refine WL.enter rfl (run_call en79 rfl rfl) (state_spec _ hs.tail.tail.hd) ?_
          rintro e w ⟨rfl, hq⟩
          refine ⟨_, rfl, ?_⟩
          replace hs := hs.callE hq
          refine WL.alloc ty125 rfl hs (fun b13 w hs => ?_)
          refine WL.storeAll ty125 rfl rfl ((by rfl)) (Cells1.wvs _) hs (by first | rfl | assumption) (fun w hs => ?_)
          refine WL.nil ?_
          rw [hS] at hs
          refine CW.seq <| CW.seq ?_
          refine CW.reg ?_
          refine WL.val rfl (run_move) ?_
          refine WL.nil ?_
          refine CW.block ?_
          refine CW.loop (fun m f w' => ∃ t, t ≤ 64 ∧ m = 64 - t ∧ Step [b] [(b13, blk 125 (wvs (stRounds S W t).l)), (b5, blk 145 (wvs W)), (b4, blk 145 (wvs kL)), (b, blk 129 (hcs s bg rest n))] w0 w' ∧ Holds f [(0, .pointer (some ⟨b, 0, none⟩)), (4, .pointer (some ⟨b4, 0, none⟩)), (5, .pointer (some ⟨b5, 0, none⟩)), (9, .func (.func 99) #[] #[]), (13, .pointer (some ⟨b13, 0, none⟩)), (95, .int .i64 (t : Nat))]) (m := 64) ?_ ?_
          · exact ⟨0, by omega, rfl, by rw [stRounds_zero]; exact hs, rfl, rfl, rfl, rfl, rfl, rfl, trivial⟩
          · clear hs
            rintro m f w ⟨t, ht, rfl, hs, hf⟩
            have hobt := hf.chain
            obtain ⟨g, rfl⟩ := hobt
            refine CW.seq ?_
            refine CW.reg ?_
            refine WL.val rfl (run_lss rfl rfl) ?_
            refine WL.nil ?_
            refine CW.seq ?_
            refine CW.condP rfl (fun h => ?_) (fun h => ?_)
            · have hlt : t < 64 := by omega
              have hobt : ∃ st, stRounds S W t = st := ⟨_, rfl⟩
              obtain ⟨st, hst⟩ := hobt
              rw [hst] at hs
              have hk : (wvs kL)[0 + t * 1]? = some (wv (kL.getD t 0)) := by rw [Nat.mul_one, Nat.zero_add]; exact wvs_get (by rw [kL_len]; exact hlt)
              have hw : (wvs W)[0 + t * 1]? = some (wv (W.getD t 0)) := by rw [Nat.mul_one, Nat.zero_add]; exact wvs_get (by omega)
              repeat (first | refine CW.seq ?_ | refine CW.block ?_ | refine CW.skip ?_)
              refine CW.reg ?_
              refine WL.val rfl (run_move) ?_
              refine WL.val rfl (run_assign) ?_
              refine WL.nil ?_
              refine CW.seq ?_
              refine CW.quiet mixedP (by kernel_rfl) hs ?_
              refine QL.val rfl (fun w hs => run_ixArrN (i := 0) Try.underlying125 ty124 rfl rfl (by omega)) ?_
              refine QL.val rfl (fun w hs => run_load1 ty124 rfl (hs.c0 (v := wv st.a) rfl)) ?_
              refine QL.val rfl (fun w hs => run_ixArrN (i := 4) Try.underlying125 ty124 rfl rfl (by omega)) ?_
              refine QL.val rfl (fun w hs => run_load1 ty124 rfl (hs.c0 (v := wv st.e) rfl)) ?_
              refine QL.val rfl (fun w hs => run_assign) ?_
              refine QL.val rfl (fun w hs => run_assign) ?_
              refine QL.nil (fun w hs => ?_)
              refine CW.seq ?_
              refine CW.quiet mixedP (by kernel_rfl) hs ?_
              refine QL.val rfl (fun w hs => run_ixArrN (i := 7) Try.underlying125 ty124 rfl rfl (by omega)) ?_
              refine QL.val rfl (fun w hs => run_load1 ty124 rfl (hs.c0 (v := wv st.h) rfl)) ?_
              refine QL.val rfl (fun w hs => run_move) ?_
              refine QL.val rfl (fun w hs => run_move) ?_
              refine QL.enter rfl (fun w => run_callV (cap := []) en99 rfl rfl) (fun w hs => rsp 6 (by decide) (by decide) _) ?_
              refine QL.val rfl (fun w hs => run_move) ?_
              refine QL.val rfl (fun w hs => run_move) ?_
              refine QL.enter rfl (fun w => run_callV (cap := []) en99 rfl rfl) (fun w hs => rsp 11 (by decide) (by decide) _) ?_
              refine QL.val rfl (fun w hs => run_xor32 rfl rfl) ?_
              refine QL.val rfl (fun w hs => run_move) ?_
              refine QL.val rfl (fun w hs => run_move) ?_
              refine QL.enter rfl (fun w => run_callV (cap := []) en99 rfl rfl) (fun w hs => rsp 25 (by decide) (by decide) _) ?_
              refine QL.val rfl (fun w hs => run_xor32 rfl rfl) ?_
              refine QL.val rfl (fun w hs => run_add32 rfl rfl) ?_
              refine QL.val rfl (fun w hs => run_move) ?_
              refine QL.val rfl (fun w hs => run_ixArrN (i := 5) Try.underlying125 ty124 rfl rfl (by omega)) ?_
              refine QL.val rfl (fun w hs => run_load1 ty124 rfl (hs.c0 (v := wv st.f) rfl)) ?_
              refine QL.val rfl (fun w hs => run_and32 rfl rfl) ?_
              refine QL.val rfl (fun w hs => run_move) ?_
              refine QL.val rfl (fun w hs => run_not32 rfl) ?_
              refine QL.val rfl (fun w hs => run_ixArrN (i := 6) Try.underlying125 ty124 rfl rfl (by omega)) ?_
              refine QL.val rfl (fun w hs => run_load1 ty124 rfl (hs.c0 (v := wv st.g) rfl)) ?_
              refine QL.val rfl (fun w hs => run_and32 rfl rfl) ?_
              refine QL.val rfl (fun w hs => run_xor32 rfl rfl) ?_
              refine QL.val rfl (fun w hs => run_add32 rfl rfl) ?_
              refine QL.val rfl (fun w hs => run_move) ?_
              refine QL.val rfl (fun w hs => run_ixArrN Try.underlying145 ty124 rfl rfl (by omega)) ?_
              refine QL.val rfl (fun w hs => run_load1 ty124 rfl (hs.c2 hk)) ?_
              refine QL.val rfl (fun w hs => run_add32 rfl rfl) ?_
              refine QL.val rfl (fun w hs => run_move) ?_
              refine QL.val rfl (fun w hs => run_ixArrN Try.underlying145 ty124 rfl rfl (by omega)) ?_
              refine QL.val rfl (fun w hs => run_load1 ty124 rfl (hs.c1 hw)) ?_
              refine QL.val rfl (fun w hs => run_add32 rfl rfl) ?_
              refine QL.val rfl (fun w hs => run_assign) ?_
              refine QL.nil (fun w hs => ?_)
              refine CW.seq ?_
              refine CW.quiet mixedP (by kernel_rfl) hs ?_
              refine QL.val rfl (fun w hs => run_move) ?_
              refine QL.val rfl (fun w hs => run_move) ?_
              refine QL.enter rfl (fun w => run_callV (cap := []) en99 rfl rfl) (fun w hs => rsp 2 (by decide) (by decide) _) ?_
              refine QL.val rfl (fun w hs => run_move) ?_
              refine QL.val rfl (fun w hs => run_move) ?_
              refine QL.enter rfl (fun w => run_callV (cap := []) en99 rfl rfl) (fun w hs => rsp 13 (by decide) (by decide) _) ?_
              refine QL.val rfl (fun w hs => run_xor32 rfl rfl) ?_
              refine QL.val rfl (fun w hs => run_move) ?_
              refine QL.val rfl (fun w hs => run_move) ?_
              refine QL.enter rfl (fun w => run_callV (cap := []) en99 rfl rfl) (fun w hs => rsp 22 (by decide) (by decide) _) ?_
              refine QL.val rfl (fun w hs => run_xor32 rfl rfl) ?_
              refine QL.val rfl (fun w hs => run_move) ?_
              refine QL.val rfl (fun w hs => run_ixArrN (i := 1) Try.underlying125 ty124 rfl rfl (by omega)) ?_
              refine QL.val rfl (fun w hs => run_load1 ty124 rfl (hs.c0 (v := wv st.b) rfl)) ?_
              refine QL.val rfl (fun w hs => run_and32 rfl rfl) ?_
              refine QL.val rfl (fun w hs => run_move) ?_
              refine QL.val rfl (fun w hs => run_ixArrN (i := 2) Try.underlying125 ty124 rfl rfl (by omega)) ?_
              refine QL.val rfl (fun w hs => run_load1 ty124 rfl (hs.c0 (v := wv st.c) rfl)) ?_
              refine QL.val rfl (fun w hs => run_and32 rfl rfl) ?_
              refine QL.val rfl (fun w hs => run_xor32 rfl rfl) ?_
              refine QL.val rfl (fun w hs => run_ixArrN (i := 1) Try.underlying125 ty124 rfl rfl (by omega)) ?_
              refine QL.val rfl (fun w hs => run_load1 ty124 rfl (hs.c0 (v := wv st.b) rfl)) ?_
              refine QL.val rfl (fun w hs => run_ixArrN (i := 2) Try.underlying125 ty124 rfl rfl (by omega)) ?_
              refine QL.val rfl (fun w hs => run_load1 ty124 rfl (hs.c0 (v := wv st.c) rfl)) ?_
              refine QL.val rfl (fun w hs => run_and32 rfl rfl) ?_
              refine QL.val rfl (fun w hs => run_xor32 rfl rfl) ?_
              refine QL.val rfl (fun w hs => run_add32 rfl rfl) ?_
              refine QL.val rfl (fun w hs => run_assign) ?_
              refine QL.nil (fun w hs => ?_)
              refine CW.seq ?_
              refine CW.quietT (l1 := [_, _]) (l2 := [_]) 2 rfl mixedP rfl (by kernel_rfl) hs ?_
              refine QL.val rfl (fun w hs => run_sliceArr (lo := 1) (hi := 8) (m := 8) Try.underlying125 ty124 rfl rfl rfl (by decide) (by decide)) ?_
              refine QL.val rfl (fun w hs => run_sliceArr (lo := 0) (hi := 7) (m := 8) Try.underlying125 ty124 rfl rfl rfl (by decide) (by decide)) ?_
              refine QL.nil (fun w hs => ?_)
              refine WL.copy Try.underlying149 ty124 rfl rfl (hs) (Sl.mk (n := 7) (by rfl) (hs.a0.take 7)) ((Cells1.wvs _).take 7) (by first | omega | exact Nat.le_of_ble_eq_true rfl | (simp [Ent.cells, u8s]; done)) (fun k hk => by cases hk; rfl) (fun w hs => ⟨fun k hk => ?_, fun h => by cases h⟩)
              cases hk
              refine WL.nil ?_
              replace hs := (congrArg (fun cs => Step [b] [(b13, blk 125 cs), (b5, blk 145 (wvs W)), (b4, blk 145 (wvs kL)), (b, blk 129 (hcs s bg rest n))] w0 w) (show splice (wvs st.l) 1 ((wvs st.l).take 7) = wvs (St8.mk st.a st.a st.b st.c st.d st.e st.f st.g).l from rfl)).mp hs
              have hset1 : (wvs (St8.mk st.a st.a st.b st.c st.d st.e st.f st.g).l).set (0 + 4 * 1) (wv (st.d + (st.h + (rotr st.e 6 ^^^ rotr st.e 11 ^^^ rotr st.e 25) + (st.e &&& st.f ^^^ ~~~ st.e &&& st.g) + kL.getD t 0 + W.getD t 0))) = (wvs (St8.mk st.a st.a st.b st.c (st.d + (st.h + (rotr st.e 6 ^^^ rotr st.e 11 ^^^ rotr st.e 25) + (st.e &&& st.f ^^^ ~~~ st.e &&& st.g) + kL.getD t 0 + W.getD t 0)) st.e st.f st.g).l) := rfl
              have hset : (wvs (St8.mk st.a st.a st.b st.c (st.d + (st.h + (rotr st.e 6 ^^^ rotr st.e 11 ^^^ rotr st.e 25) + (st.e &&& st.f ^^^ ~~~ st.e &&& st.g) + kL.getD t 0 + W.getD t 0)) st.e st.f st.g).l).set (0 + 0 * 1) (wv ((st.h + (rotr st.e 6 ^^^ rotr st.e 11 ^^^ rotr st.e 25) + (st.e &&& st.f ^^^ ~~~ st.e &&& st.g) + kL.getD t 0 + W.getD t 0) + ((rotr st.a 2 ^^^ rotr st.a 13 ^^^ rotr st.a 22) + (st.a &&& st.b ^^^ st.a &&& st.c ^^^ st.b &&& st.c)))) = wvs (stRounds S W (t + 1)).l := by
                rw [stRounds_succ, hst, stStep, stP, stQ]; rfl
              have hml : (wvs (St8.mk st.a st.a st.b st.c (st.d + (st.h + (rotr st.e 6 ^^^ rotr st.e 11 ^^^ rotr st.e 25) + (st.e &&& st.f ^^^ ~~~ st.e &&& st.g) + kL.getD t 0 + W.getD t 0)) st.e st.f st.g).l).length = 8 := rfl
              refine CW.seq ?_
              refine CW.reg ?_
              refine WL.val rfl (run_ixArrN (i := 4) Try.underlying125 ty124 rfl rfl (by omega)) ?_
              refine WL.val rfl (run_load1 ty124 rfl (hs.c0 (v := wv st.d) rfl)) ?_
              refine WL.val rfl (run_move) ?_
              refine WL.val rfl (run_add32 rfl rfl) ?_
              refine WL.val rfl (run_ixArrN (i := 4) Try.underlying125 ty124 rfl rfl (by omega)) ?_
              refine WL.store1 ty124 rfl rfl (rfl) hs (by first | (simp; done) | omega | (simp only [List.length_append, List.length_replicate, List.length_cons, List.length_nil, List.length_set]; omega) | (simp [Ent.cells, u8s]; done) | exact Nat.le_of_ble_eq_true rfl) (fun w hs => ?_)
              refine WL.nil ?_
              replace hs := (congrArg (fun cs => Step [b] [(b13, blk 125 cs), (b5, blk 145 (wvs W)), (b4, blk 145 (wvs kL)), (b, blk 129 (hcs s bg rest n))] w0 w) hset1).mp hs
              refine CW.reg ?_
              refine WL.val rfl (run_move) ?_
              refine WL.val rfl (run_move) ?_
              refine WL.val rfl (run_add32 rfl rfl) ?_
              refine WL.val rfl (run_ixArrN (i := 0) Try.underlying125 ty124 rfl rfl (by omega)) ?_
              refine WL.store1 ty124 rfl rfl (rfl) hs (by first | (simp; done) | omega | (simp only [List.length_append, List.length_replicate, List.length_cons, List.length_nil, List.length_set]; omega) | (simp [Ent.cells, u8s]; done) | exact Nat.le_of_ble_eq_true rfl) (fun w hs => ?_)
              refine WL.nil ?_
              replace hs := (congrArg (fun cs => Step [b] [(b13, blk 125 cs), (b5, blk 145 (wvs W)), (b4, blk 145 (wvs kL)), (b, blk 129 (hcs s bg rest n))] w0 w) hset).mp hs
              refine CW.reg ?_
              refine WL.val rfl (run_add (c := ((t + 1 : Nat) : Int)) rfl rfl (by omega) (by omega)) ?_
              refine WL.val rfl (run_move) ?_
              refine WL.nil ?_
              refine (show _ ∧ _ from ⟨rfl, _, ?_, t + 1, by omega, rfl, hs, rfl, rfl, rfl, rfl, rfl, rfl, trivial⟩)
              omega
            · obtain rfl : t = 64 := by omega
              have hobt : ∃ r, stRounds S W 64 = r := ⟨_, rfl⟩
              obtain ⟨r, hR⟩ := hobt
              rw [hR] at hs ⊢
              replace hs : Step [b] [(b, blk 129 (hcs s bg rest n)), (b13, blk 125 (wvs r.l))] w0 w := Step.dropR (L1 := [_, _]) (hs.front [_, _, _])
              repeat (first | refine CW.seq ?_ | refine CW.exit ?_)
              refine CW.reg ?_
              refine WL.val rfl (run_move) ?_
              refine WL.enter rfl (run_call en79 rfl rfl) (state_spec _ hs.hd) ?_
              rintro e w ⟨rfl, hq⟩
              refine ⟨_, rfl, ?_⟩
              replace hs := hs.callE hq
              refine WL.val rfl (run_move) ?_
              refine WL.nil ?_
              rw [hS]
              refine CW.block ?_
              refine CW.loop (fun m f w' => ∃ i, i ≤ 8 ∧ m = 8 - i ∧ Step [b] [(b, blk 129 (wvs (mixW s S r i) ++ Value.bool bg :: (u8s rest ++ [.int .i64 n]))), (b13, blk 125 (wvs r.l))] w0 w' ∧ Holds f [(0, .pointer (some ⟨b, 0, none⟩)), (13, .pointer (some ⟨b13, 0, none⟩)), (176, .agg (wvs S.l).toArray), (177, .int .i64 (i : Nat))]) (m := 8) ?_ ?_
              · exact ⟨0, by omega, rfl, hs, rfl, rfl, rfl, rfl, trivial⟩
              · clear hs
                rintro m f w ⟨i, hi, rfl, hs, hf⟩
                have hobt := hf.chain
                obtain ⟨g, rfl⟩ := hobt
                refine CW.seq ?_
                refine CW.reg ?_
                refine WL.val rfl (run_lss rfl rfl) ?_
                refine WL.nil ?_
                refine CW.seq ?_
                refine CW.condP rfl (fun h => ?_) (fun h => ?_)
                · have hlt : i < 8 := by omega
                  have hr1 : (wvs r.l)[0 + i * 1]? = some (wv (r.l.getD i 0)) := by rw [Nat.mul_one, Nat.zero_add]; exact St8_get hlt
                  have hS1 : (wvs S.l)[i]? = some (wv (S.l.getD i 0)) := St8_get hlt
                  have hml := mixW_len (s := s) (S := S) (r := r) hi
                  repeat (first | refine CW.seq ?_ | refine CW.block ?_ | refine CW.skip ?_)
                  refine CW.reg ?_
                  refine WL.val rfl (run_move) ?_
                  refine WL.val rfl (run_ixAgg Try.underlying125 ty124 rfl rfl (by omega) (hS1)) ?_
                  refine WL.val rfl (run_assign) ?_
                  refine WL.val rfl (run_assign) ?_
                  refine WL.nil ?_
                  refine CW.quietT (l1 := [_, _, _, _, _, _, _, _, _, _]) (l2 := [_]) 10 rfl mixedP rfl (by kernel_rfl) hs ?_
                  refine QL.val rfl (fun w hs => run_move) ?_
                  refine QL.val rfl (fun w hs => run_move) ?_
                  refine QL.val rfl (fun w hs => run_move) ?_
                  refine QL.val rfl (fun w hs => run_move) ?_
                  refine QL.val rfl (fun w hs => run_ixArrN Try.underlying125 ty124 rfl rfl (by omega)) ?_
                  refine QL.val rfl (fun w hs => run_load1 ty124 rfl (hs.c1 hr1)) ?_
                  refine QL.val rfl (fun w hs => run_add32 rfl rfl) ?_
                  refine QL.val rfl (fun w hs => run_nilCheck rfl) ?_
                  refine QL.val rfl (fun w hs => run_field (o' := 0) Try.underlying129 rfl ty125 rfl rfl rfl) ?_
                  refine QL.val rfl (fun w hs => run_ixArrN Try.underlying125 ty124 rfl rfl (by omega)) ?_
                  refine QL.nil (fun w hs => ?_)
                  refine WL.store1 ty124 rfl rfl (rfl) hs (by first | (simp; done) | omega | (simp only [List.length_append, List.length_replicate, List.length_cons, List.length_nil, List.length_set]; omega) | (simp [Ent.cells, u8s]; done) | exact Nat.le_of_ble_eq_true rfl) (fun w hs => ?_)
                  refine WL.nil ?_
                  replace hs := (congrArg (fun cs => Step [b] [(b, blk 129 cs), (b13, blk 125 (wvs r.l))] w0 w) (mixW_set hlt)).mp hs
                  refine CW.reg ?_
                  refine WL.val rfl (run_add (c := ((i + 1 : Nat) : Int)) rfl rfl (by omega) (by omega)) ?_
                  refine WL.val rfl (run_move) ?_
                  refine WL.nil ?_
                  refine (show _ ∧ _ from ⟨rfl, _, ?_, i + 1, by omega, rfl, hs, rfl, rfl, rfl, rfl, trivial⟩)
                  omega
                · obtain rfl : i = 8 := by omega
                  refine CW.exit ?_
                  refine CW.reg ?_
                  refine WL.val rfl (run_move) ?_
                  refine WL.val rfl (run_nilCheck rfl) ?_
                  refine WL.val rfl (run_field (o' := 8) Try.underlying129 rfl ty4 rfl rfl rfl) ?_
                  refine WL.store1 ty4 rfl rfl (rfl) hs (by first | (simp; done) | omega | (simp only [List.length_append, List.length_replicate, List.length_cons, List.length_nil, List.length_set]; omega) | (simp [Ent.cells, u8s]; done) | exact Nat.le_of_ble_eq_true rfl) (fun w hs => ?_)
                  refine WL.nil ?_
                  refine fin_end0 rfl ?_
                  exact ⟨rfl, hs.dropR (L1 := [_])⟩
end Go.Gx
/-! Sum4 -/
namespace Go.Gx
open Go.Proofs
set_option linter.unusedVariables false
set_option linter.unusedSimpArgs false
set_option maxRecDepth 100000
attribute [local irreducible] stBlock stBlocks hcs restW

def HT (b : Nat) (s : St8) (bg : Bool) (rest : List UInt8) (n : Nat) : Nat × Obj := (b, blk 129 (hcs s bg rest n))
/-- A Hash that d was written to. -/
def Hashes (S : List Nat) (w0 w : World) (b : Nat) (d : List UInt8) : Prop := ∃ s bg rest, HInv d s bg rest ∧ Step S [(b, blk 129 (hcs s bg rest d.length))] w0 w

theorem write_spec {b : Nat} {s : St8} {bg : Bool} {rest d x : List UInt8} {v : Value} (w0 : World) (hb : w0.heap[b]? = some (blk 129 (hcs s bg rest d.length))) (hI : HInv d s bg rest)
    (hv : Sl w0 1 v x.length (u8s x)) (hcap : Room v) (ho : x = [] ∨ Outside v [b]) (hsz : d.length + x.length < 4611686018427387904) :
    Calls Try.prog 61 #[.pointer (some ⟨b, 0, none⟩), v] w0 (fun e w' => e = .returned (.tuple #[]) ∧ Hashes [b] w0 w' b (d ++ x)) := by
  have hs : Step [b] [(b, blk 129 (hcs s bg rest d.length))] w0 w0 := Step.start (L := [(b, blk 129 (hcs s bg rest d.length))]) (by simp) (by simpa using hb)
  refine calls (n := 42) Try.func61 rfl rfl rfl ?_
  repeat (first | refine CW.seq ?_ | refine CW.block ?_ | refine CW.skip ?_ | refine CW.label ?_ | refine CW.exit ?_ | refine CW.condT rfl ?_ | refine CW.condF rfl ?_)
  refine CW.loop (fun m f w' => ∃ i u s bg rest, i ≤ x.length ∧ m = x.length - i ∧ HInv (d ++ x.take i) s bg rest ∧ Step [b] [(b, blk 129 (hcs s bg rest (d.length + i)))] w0 w' ∧ Sl w0 1 u (x.length - i) (u8s (x.drop i)) ∧ Room u ∧ (i < x.length → Outside u [b]) ∧ Holds f [(0, .pointer (some ⟨b, 0, none⟩)), (1, u)]) (m := x.length) ?_ ?_
  · exact ⟨0, v, s, bg, rest, by omega, rfl, by simpa using hI, hs, by simpa using hv, hcap, fun h => ho.resolve_left (fun e => by rw [e] at h; exact absurd h (by simp)), rfl, rfl, trivial⟩
  · clear hs hb hI hv hcap ho
    rintro m f w ⟨i, u, s, bg, rest, hi, rfl, hI, hs, hu, hcap, ho, hf⟩
    have hobt := hf.chain
    obtain ⟨g, rfl⟩ := hobt
    have hfin : i = x.length → Hashes [b] w0 w b (d ++ x) := fun e => by
      subst e
      rw [List.take_length] at hI
      exact ⟨s, bg, rest, hI, by rw [List.length_append]; exact hs⟩
    obtain ⟨hul, ⟨_, c, rfl, hnil⟩ | ⟨bx, off, c, rfl, hat0⟩⟩ := hu
    · repeat (first | refine CW.seq ?_ | refine CW.block ?_ | refine CW.skip ?_ | refine CW.label ?_ | refine CW.exit ?_ | refine CW.condT rfl ?_ | refine CW.condF rfl ?_)
      refine CW.reg ?_
      refine WL.val rfl (run_move) ?_
      refine WL.val rfl (run_lenSl Try.underlying22 rfl) ?_
      refine WL.val rfl (run_gtr rfl rfl) ?_
      refine WL.nil ?_
      repeat (first | refine CW.seq ?_ | refine CW.block ?_ | refine CW.skip ?_ | refine CW.label ?_ | refine CW.exit ?_)
      first | refine CW.condP rfl (fun h => ?_) (fun h => ?_) | refine CW.cond rfl (fun h => ?_) (fun h => ?_)
      · omega
      · repeat (first | refine CW.seq ?_ | refine CW.block ?_ | refine CW.skip ?_ | refine CW.label ?_ | refine CW.exit ?_ | refine CW.condT rfl ?_ | refine CW.condF rfl ?_)
        refine fin_end0 rfl ?_
        exact ⟨rfl, hfin (by omega)⟩
    · repeat (first | refine CW.seq ?_ | refine CW.block ?_ | refine CW.skip ?_ | refine CW.label ?_ | refine CW.exit ?_ | refine CW.condT rfl ?_ | refine CW.condF rfl ?_)
      refine CW.reg ?_
      refine WL.val rfl (run_move) ?_
      refine WL.val rfl (run_lenSl Try.underlying22 rfl) ?_
      refine WL.val rfl (run_gtr rfl rfl) ?_
      refine WL.nil ?_
      repeat (first | refine CW.seq ?_ | refine CW.block ?_ | refine CW.skip ?_ | refine CW.label ?_ | refine CW.exit ?_)
      first | refine CW.condP rfl (fun h => ?_) (fun h => ?_) | refine CW.cond rfl (fun h => ?_) (fun h => ?_)
      · have hbx : bx ∉ [b] := ho (by omega)
        have hat := hat0.step hs hbx
        have hcl : x.length - i ≤ c := hcap
        have hobt : ∃ n, d.length + i = n := ⟨_, rfl⟩
        obtain ⟨n, hn⟩ := hobt
        rw [hn] at hs
        have hdl : (d ++ x.take i).length = n := by rw [List.length_append, List.length_take]; omega
        have hobt : ∃ K, min (x.length - i) (64 - n % 64) = K := ⟨_, rfl⟩
        obtain ⟨K, hK⟩ := hobt
        have hml : n % 64 < 64 := Nat.mod_lt _ (by decide)
        have hobt : ∃ y, (x.drop i).take K = y := ⟨_, rfl⟩
        obtain ⟨y, hy⟩ := hobt
        have hyl : y.length = K := by rw [← hy, List.length_take, List.length_drop]; omega
        have hyx : d ++ x.take i ++ y = d ++ x.take (i + K) := by rw [← hy, List.take_add, List.append_assoc]
        have hln := hcs_len (s := s) (bg := bg) (n := n) hI.len
        have hRl : (restW rest (n % 64) y).length = 64 := restW_len hI.len (by omega)
        have hln2 := hcs_len (s := s) (bg := bg) (n := n) hRl
        have hcutA : cutSl 1 b (0 + 9) (n % 64) 64 64 = .slice (some ⟨b, 9 + n % 64, none⟩) (64 - n % 64) (64 - n % 64) := by
          rw [cutSl, if_neg (by omega), Nat.mul_one]
        have hsp : splice (hcs s bg rest n) (9 + n % 64) ((u8s (x.drop i)).take (min (x.length - i) (64 - n % 64) * 1)) = hcs s bg (restW rest (n % 64) y) n := by
          have e : (u8s (x.drop i)).take (min (x.length - i) (64 - n % 64) * 1) = u8s y := by rw [Nat.mul_one, hK, ← hy, u8s, u8s, List.map_take]
          rw [e, hcs_copy hI.len (by omega)]
        have hset : (hcs s bg (restW rest (n % 64) y) n).set (0 + 73) (.int .i64 ((n + K : Nat) : Int)) = hcs s bg (restW rest (n % 64) y) (n + K) := hcs_setN hRl
        have hu' : Sl w0 1 (cutSl 1 bx off K (x.length - i) c) (x.length - (i + K)) (u8s (x.drop (i + K))) := by
          have h1 := Sl.cut (lo := K) (hi := x.length - i) (m := c) hat0 hul (by omega) (Nat.le_refl _) hcl
          rw [show x.length - i - K = x.length - (i + K) by omega, Nat.mul_one, List.take_of_length_le (by rw [u8s, List.length_map, List.length_drop]; omega), u8s, ← List.map_drop, List.drop_drop] at h1
          exact h1
        have hr' : Room (cutSl 1 bx off K (x.length - i) c) := by show x.length - i - K ≤ c - K; omega
        have ho' : Outside (cutSl 1 bx off K (x.length - i) c) [b] := hbx
        repeat (first | refine CW.seq ?_ | refine CW.block ?_ | refine CW.skip ?_ | refine CW.label ?_ | refine CW.exit ?_ | refine CW.condT rfl ?_ | refine CW.condF rfl ?_)
        refine CW.reg ?_
        refine WL.val rfl (run_move) ?_
        refine WL.val rfl (run_nilCheck rfl) ?_
        refine WL.val rfl (run_field (o' := 73) Try.underlying129 rfl ty3 rfl rfl rfl) ?_
        refine WL.val rfl (run_load1 ty3 rfl (hs.c0 (hcs_n hI.len))) ?_
        refine WL.val rfl (run_remN (m := 64) rfl rfl (by decide)) ?_
        refine WL.val rfl (run_assign) ?_
        refine WL.nil ?_
        repeat (first | refine CW.seq ?_ | refine CW.block ?_ | refine CW.skip ?_ | refine CW.label ?_ | refine CW.exit ?_ | refine CW.condT rfl ?_ | refine CW.condF rfl ?_)
        refine CW.reg ?_
        refine WL.val rfl (run_move) ?_
        refine WL.val rfl (run_nilCheck rfl) ?_
        refine WL.val rfl (run_field (o' := 9) Try.underlying129 rfl ty127 rfl rfl rfl) ?_
        refine WL.val rfl (run_move) ?_
        refine WL.val rfl (run_sliceArrE (lo := n % 64) (hi := 64) (m := 64) Try.underlying127 ty5 rfl rfl rfl (by omega) (by omega) hcutA) ?_
        refine WL.val rfl (run_move) ?_
        refine WL.copy Try.underlying22 ty5 rfl rfl (hs) (⟨hul, .inr ⟨bx, off, c, rfl, hat⟩⟩) (Cells1.u8s _) (by first | omega | exact Nat.le_of_ble_eq_true rfl | (simp [Ent.cells, u8s]; done)) (fun k hk => by cases hk; rfl) (fun w hs => ⟨fun k hk => ?_, fun h => by cases h⟩)
        cases hk
        refine WL.val rfl (run_assign) ?_
        refine WL.nil ?_
        replace hs := (congrArg (fun cs => Step [b] [(b, blk 129 cs)] w0 w) hsp).mp hs
        repeat (first | refine CW.seq ?_ | refine CW.block ?_ | refine CW.skip ?_ | refine CW.label ?_ | refine CW.exit ?_ | refine CW.condT rfl ?_ | refine CW.condF rfl ?_)
        refine CW.reg ?_
        refine WL.val rfl (run_move) ?_
        refine WL.val rfl (run_nilCheck rfl) ?_
        refine WL.val rfl (run_field (o' := 73) Try.underlying129 rfl ty3 rfl rfl rfl) ?_
        refine WL.val rfl (run_load1 ty3 rfl (hs.c0 (hcs_n hRl))) ?_
        refine WL.val rfl (run_move) ?_
        refine WL.val rfl (run_add (c := ((n + K : Nat) : Int)) rfl rfl (by omega) (by omega)) ?_
        refine WL.val rfl (run_nilCheck rfl) ?_
        refine WL.val rfl (run_field (o' := 73) Try.underlying129 rfl ty3 rfl rfl rfl) ?_
        first | refine WL.store1 ty3 rfl rfl (rfl) hs (by first | (simp; done) | omega | (simp only [List.length_append, List.length_replicate, List.length_cons, List.length_nil, List.length_set]; omega) | (simp [Ent.cells, u8s]; done) | exact Nat.le_of_ble_eq_true rfl) (fun w hs => ?_) | refine WL.store1_1 ty3 rfl rfl (rfl) hs (by first | (simp; done) | omega | (simp only [List.length_append, List.length_replicate, List.length_cons, List.length_nil, List.length_set]; omega) | (simp [Ent.cells, u8s]; done) | exact Nat.le_of_ble_eq_true rfl) (fun w hs => ?_) | refine WL.store1_2 ty3 rfl rfl (rfl) hs (by first | (simp; done) | omega | (simp only [List.length_append, List.length_replicate, List.length_cons, List.length_nil, List.length_set]; omega) | (simp [Ent.cells, u8s]; done) | exact Nat.le_of_ble_eq_true rfl) (fun w hs => ?_) | refine WL.store1_3 ty3 rfl rfl (rfl) hs (by first | (simp; done) | omega | (simp only [List.length_append, List.length_replicate, List.length_cons, List.length_nil, List.length_set]; omega) | (simp [Ent.cells, u8s]; done) | exact Nat.le_of_ble_eq_true rfl) (fun w hs => ?_) | refine WL.store1_4 ty3 rfl rfl (rfl) hs (by first | (simp; done) | omega | (simp only [List.length_append, List.length_replicate, List.length_cons, List.length_nil, List.length_set]; omega) | (simp [Ent.cells, u8s]; done) | exact Nat.le_of_ble_eq_true rfl) (fun w hs => ?_) | refine WL.store1 ty3 rfl rfl (rfl) hs (by first | (simp; done) | omega | (simp only [List.length_append, List.length_replicate, List.length_cons, List.length_nil, List.length_set]; omega) | (simp [Ent.cells, u8s]; done) | exact Nat.le_of_ble_eq_true rfl) (fun w hs => ?_)
        refine WL.nil ?_
        replace hs := (congrArg (fun cs => Step [b] [(b, blk 129 cs)] w0 w) hset).mp hs
        repeat (first | refine CW.seq ?_ | refine CW.block ?_ | refine CW.skip ?_ | refine CW.label ?_ | refine CW.exit ?_ | refine CW.condT rfl ?_ | refine CW.condF rfl ?_)
        refine CW.reg ?_
        refine WL.val rfl (run_move) ?_
        refine WL.val rfl (run_move) ?_
        refine WL.val rfl (run_sliceSlE (lo := K) (hi := x.length - i) (m := c) Try.underlying22 ty5 rfl (congrArg (fun k : Nat => Value.int .i64 k) hK) rfl rfl (by simp) (by omega) (by omega) (by omega) rfl) ?_
        refine WL.val rfl (run_assign) ?_
        refine WL.nil ?_
        repeat (first | refine CW.seq ?_ | refine CW.block ?_ | refine CW.skip ?_ | refine CW.label ?_ | refine CW.exit ?_ | refine CW.condT rfl ?_ | refine CW.condF rfl ?_)
        refine CW.reg ?_
        refine WL.val rfl (run_move) ?_
        refine WL.val rfl (run_move) ?_
        refine WL.val rfl (run_add (c := ((n % 64 + K : Nat) : Int)) rfl rfl (by omega) (by omega)) ?_
        refine WL.val rfl (run_eql rfl rfl) ?_
        refine WL.nil ?_
        repeat (first | refine CW.seq ?_ | refine CW.block ?_ | refine CW.skip ?_ | refine CW.label ?_ | refine CW.exit ?_)
        first | refine CW.condP rfl (fun h2 => ?_) (fun h2 => ?_) | refine CW.cond rfl (fun h2 => ?_) (fun h2 => ?_)
        · have hfull := hI.full (y := y) (by rw [hdl]; omega)
          rw [hdl, hyx] at hfull
          repeat (first | refine CW.seq ?_ | refine CW.block ?_ | refine CW.skip ?_ | refine CW.label ?_ | refine CW.exit ?_ | refine CW.condT rfl ?_ | refine CW.condF rfl ?_)
          refine CW.reg ?_
          refine WL.val rfl (run_move) ?_
          refine WL.val rfl (run_move) ?_
          refine WL.val rfl (run_nilCheck rfl) ?_
          refine WL.val rfl (run_field (o' := 9) Try.underlying129 rfl ty127 rfl rfl rfl) ?_
          refine WL.val rfl (run_sliceArrE (lo := 0) (hi := 64) (m := 64) (v := .slice (some ⟨b, 9, none⟩) 64 64) Try.underlying127 ty5 rfl rfl rfl (by decide) (by decide) rfl) ?_
          refine WL.enter rfl (run_call en78 rfl rfl) (block_words hRl _ hs.hd) ?_
          rintro e w ⟨rfl, hq⟩
          refine ⟨_, rfl, ?_⟩
          replace hs := Step.call (L1 := [_]) (L := []) hs hq
          refine WL.nil ?_
          repeat (first | refine CW.seq ?_ | refine CW.block ?_ | refine CW.skip ?_ | refine CW.label ?_ | refine CW.exit ?_)
          refine (show _ ∧ _ from ⟨rfl, _, ?_, i + K, _, _, _, _, by omega, rfl, hfull, by rw [← Nat.add_assoc, hn]; exact hs, hu', hr', fun _ => ho', rfl, rfl, trivial⟩)
          omega
        · have hpart := hI.part (y := y) (by rw [hdl]; omega)
          rw [hdl, hyx] at hpart
          repeat (first | refine CW.seq ?_ | refine CW.block ?_ | refine CW.skip ?_ | refine CW.label ?_ | refine CW.exit ?_)
          refine (show _ ∧ _ from ⟨rfl, _, ?_, i + K, _, _, _, _, by omega, rfl, hpart, by rw [← Nat.add_assoc, hn]; exact hs, hu', hr', fun _ => ho', rfl, rfl, trivial⟩)
          omega
      · repeat (first | refine CW.seq ?_ | refine CW.block ?_ | refine CW.skip ?_ | refine CW.label ?_ | refine CW.exit ?_ | refine CW.condT rfl ?_ | refine CW.condF rfl ?_)
        refine fin_end0 rfl ?_
        exact ⟨rfl, hfin (by omega)⟩
end Go.Gx
/-! Hash2 -/
namespace Go.Gx
set_option linter.unusedVariables false
set_option linter.unusedSimpArgs false

theorem fillU {a l : List UInt8} {m j : Nat} (hj : j < m) (hl : l.length = m) : (a ++ (l.take j ++ List.replicate (m - j) 0)).set (a.length + j) (l.getD j 0) = a ++ (l.take (j + 1) ++ List.replicate (m - (j + 1)) 0) := by
  have hlt : (l.take j).length = j := by rw [List.length_take]; omega
  have e : l.take (j + 1) = l.take j ++ [l.getD j 0] := by
    rw [List.take_add_one, List.getD_eq_getElem?_getD, List.getElem?_eq_getElem (by omega)]
    rfl
  rw [List.set_append, if_neg (by omega), Nat.add_sub_cancel_left, List.set_append, hlt, if_neg (Nat.lt_irrefl j), Nat.sub_self, e, show m - j = (m - (j + 1)) + 1 by omega, List.replicate_succ, List.set_cons_zero, List.append_assoc]
  rfl
def padA (n : Nat) : List UInt8 := 128 :: List.replicate ((119 - n % 64) % 64) 0
def bufL (n i : Nat) : List UInt8 := padA n ++ ((lenB n).take i ++ List.replicate (8 - i) 0)
theorem lenB_len (n : Nat) : (lenB n).length = 8 := by simp [lenB]
theorem lenB_get {n i : Nat} (h : i < 8) : (lenB n).getD i 0 = UInt8.ofNat (n * 8 % 18446744073709551616 / 256 ^ (7 - i)) := by
  rw [List.getD_eq_getElem?_getD, lenB, List.getElem?_map, List.getElem?_range h]
  rfl
theorem padA_len (n : Nat) : (padA n).length = 1 + (119 - n % 64) % 64 := by simp [padA]; omega
theorem bufL_len {n i : Nat} (h : i ≤ 8) : (bufL n i).length = 1 + (119 - n % 64) % 64 + 8 := by
  rw [bufL, List.length_append, padA_len, List.length_append, List.length_take, lenB_len, List.length_replicate]; omega
theorem bufL_zero (n : Nat) : bufL n 0 = 128 :: List.replicate ((119 - n % 64) % 64 + 8) 0 := by
  rw [bufL, padA, List.take_zero, List.nil_append, List.cons_append, List.replicate_append_replicate]
theorem bufL_set {n i : Nat} (h : i < 8) : (bufL n i).set (1 + (119 - n % 64) % 64 + i) (UInt8.ofNat (n * 8 % 18446744073709551616 / 256 ^ (7 - i))) = bufL n (i + 1) := by
  rw [← lenB_get h, ← padA_len]
  exact fillU h (lenB_len n)
theorem bufL_all (n : Nat) : bufL n 8 = padA n ++ lenB n := by
  rw [bufL, List.take_of_length_le (by rw [lenB_len]; omega)]; simp
theorem fillB_eq (d : List UInt8) : d ++ bufL d.length 8 = fillB d := by
  rw [bufL_all, padA, fillB]; simp
theorem wBytes_len (x : Wd) : (wBytes x).length = 4 := by simp [wBytes]
theorem wBytes_get {x : Wd} {k : Nat} (h : k < 4) : (wBytes x).getD k 0 = UInt8.ofNat (x.toNat / 256 ^ (3 - k)) := by
  rw [List.getD_eq_getElem?_getD, wBytes, List.getElem?_map, List.getElem?_range h]
  rfl
def digB (s : St8) : List UInt8 := s.l.flatMap wBytes
theorem digB_len (s : St8) : (digB s).length = 32 := by simp [digB, St8.l, wBytes_len]
theorem digB_get {s : St8} {i k : Nat} (hi : i < 8) (hk : k < 4) : (digB s).getD (4 * i + k) 0 = UInt8.ofNat ((s.l.getD i 0).toNat / 256 ^ (3 - k)) := by
  rw [← wBytes_get hk]
  obtain rfl | rfl | rfl | rfl | rfl | rfl | rfl | rfl : i = 0 ∨ i = 1 ∨ i = 2 ∨ i = 3 ∨ i = 4 ∨ i = 5 ∨ i = 6 ∨ i = 7 := by omega
  all_goals
    obtain rfl | rfl | rfl | rfl : k = 0 ∨ k = 1 ∨ k = 2 ∨ k = 3 := by omega
    all_goals rfl
def digL (l : List UInt8) (j : Nat) : List UInt8 := l.take j ++ List.replicate (32 - j) 0
theorem digL_set {l : List UInt8} {j : Nat} (hj : j < 32) (hl : l.length = 32) : (digL l j).set j (l.getD j 0) = digL l (j + 1) := by
  have := fillU (a := []) hj hl
  rw [List.length_nil, Nat.zero_add] at this
  exact this
theorem digL_len {l : List UInt8} {j : Nat} (hj : j ≤ 32) (hl : l.length = 32) : (digL l j).length = 32 := by rw [digL, List.length_append, List.length_take, List.length_replicate]; omega
theorem digL_all {l : List UInt8} (hl : l.length = 32) : digL l 32 = l := by rw [digL, List.take_of_length_le (by omega)]; simp
theorem HInv.sha {d : List UInt8} {s : St8} {bg : Bool} {rest : List UInt8} (h : HInv (fillB d) s bg rest) : digB (cur bg s) = shaL d := by rw [h.st]; rfl
theorem u8s_set (l : List UInt8) (i : Nat) (c : UInt8) : (u8s l).set i (.int .u8 c.toNat) = u8s (l.set i c) := (List.map_set ..).symm
theorem Cells1.hcs {s : St8} {bg : Bool} {rest : List UInt8} {n : Nat} : Cells1 (hcs s bg rest n) := by
  refine .append (fun v hv => ?_) (fun v hv => ?_)
  · have hobt := List.mem_map.1 hv
    obtain ⟨x, _, he⟩ := hobt
    rw [← he]
    rfl
  · rcases List.mem_cons.1 hv with rfl | hv
    · rfl
    · exact (Cells1.u8s rest).append (Cells1.of_all rfl) v hv
section
variable {P : Program} {f : Slots} {w : World} {d : Option Tmp} {ty : TypeId} {pos : String} {af : Array Edge} {x y : Operand} {T T' E : TypeId} {k : IntKind}
theorem run_shlU {n : Nat} {k' : IntKind} (hx : ev f x = .int .u64 n) (hy : ev f y = .int k' 3) : (execOp (ev f) ⟨d, .binOp .shl T x y T', ty, pos, af, none⟩).run P w = .ok (.value (.int .u64 ((n * 8 % 18446744073709551616 : Nat) : Int))) w := by
  rw [run_shl hx hy (by omega)]
  have e : IntKind.u64.wrap ((n : Int) * 2 ^ min (3 : Int).toNat IntKind.u64.bits) = ((n * 8 % 18446744073709551616 : Nat) : Int) := by
    have e1 : (2 : Int) ^ min (3 : Int).toNat IntKind.u64.bits = 8 := by decide
    rw [e1]
    unfold IntKind.wrap
    simp only [IntKind.bits, IntKind.signed, Bool.false_and, Bool.false_eq_true, if_false]
    have : (2 : Int) ^ 64 = ((18446744073709551616 : Nat) : Int) := by decide
    rw [this]
    omega
  rw [e]
end
end Go.Gx
/-! Sum5 -/
namespace Go.Gx
open Go.Proofs
set_option linter.unusedVariables false
set_option linter.unusedSimpArgs false
set_option maxRecDepth 100000
theorem flat_rep (k : Nat) (z : Value) : (List.replicate k [z]).flatten = List.replicate k z := by
  induction k with
  | zero => rfl
  | succ k ih => rw [List.replicate_succ, List.flatten_cons, ih]; rfl

theorem bld_hash (w : World) : (Instr.build 129 #[]).run Try.prog w = .ok (.agg (hcs ⟨0, 0, 0, 0, 0, 0, 0, 0⟩ false (List.replicate 64 0) 0).toArray) w := by kernel_rfl
theorem new_spec (w : World) : Calls Try.prog 60 #[] w fun e w' => ∃ b, e = .returned (.pointer (some ⟨b, 0, none⟩)) ∧ Step [] [(b, blk 129 (hcs ⟨0, 0, 0, 0, 0, 0, 0, 0⟩ false (List.replicate 64 0) 0))] w w' := by
  have hs : Step [] [] w w := Step.refl w
  refine calls (n := 3) Try.func60 rfl rfl rfl ?_
  refine CW.seq ?_
  refine CW.reg ?_
  refine WL.val rfl (run_assign) ?_
  refine WL.nil ?_
  refine CW.seq ?_
  refine CW.reg ?_
  refine WL.val rfl (run_build rfl (bld_hash _)) ?_
  refine WL.box (cs := hcs ⟨0, 0, 0, 0, 0, 0, 0, 0⟩ false (List.replicate 64 0) 0) rfl rfl rfl hs (fun b2 w hs => ?_)
  refine WL.val rfl (run_assign) ?_
  refine WL.nil ?_
  refine CW.ret ?_
  refine fin_ret1 rfl ?_
  exact ⟨_, rfl, hs⟩

theorem u8s_rep (n : Nat) : List.replicate n (Value.int .u8 0) = u8s (List.replicate n 0) := by rw [u8s, List.map_replicate]; rfl
attribute [local irreducible] stBlock stBlocks hcs restW lenB bufL padA shaL digB digL fillB

theorem sum_spec {b : Nat} {s : St8} {bg : Bool} {rest d : List UInt8} (w0 : World) (hb : w0.heap[b]? = some (blk 129 (hcs s bg rest d.length))) (hI : HInv d s bg rest) (hsz : d.length < 2305843009213693952) :
    Calls Try.prog 62 #[.pointer (some ⟨b, 0, none⟩)] w0 (Ret0 (.agg (u8s (shaL d)).toArray) w0) := by
  have hs : Step [] [] w0 w0 := Step.refl w0
  have hat : At w0 b 0 (hcs s bg rest d.length) := At.of_blk hb
  have hcl := hcs_len (s := s) (bg := bg) (n := d.length) hI.len
  have hn0 := hcs_n (s := s) (bg := bg) (n := d.length) hI.len
  have hobt : ∃ n, d.length = n := ⟨_, rfl⟩
  obtain ⟨n, hn⟩ := hobt
  rw [hn] at hat hcl hn0 hsz
  have hobt : ∃ F, 1 + (119 - n % 64) % 64 = F := ⟨_, rfl⟩
  obtain ⟨F, hF⟩ := hobt
  have hF2 : F ≤ 64 := by omega
  refine calls (n := 71) Try.func62 rfl rfl rfl ?_
  refine CW.seq ?_
  refine CW.reg ?_
  refine WL.alloc ty27 rfl hs (fun b2 w hs => ?_)
  refine WL.nil ?_
  refine CW.seq ?_
  refine CW.reg ?_
  refine WL.val rfl (run_move) ?_
  refine WL.val rfl (run_nilCheck rfl) ?_
  refine WL.val rfl (run_loadN ty129 rfl hcl (hat.step hs (by simp))) ?_
  refine WL.alloc ty129 rfl hs (fun b3 w hs => ?_)
  refine WL.storeAll ty129 rfl rfl ((hcl)) (Cells1.hcs) hs (by first | rfl | assumption) (fun w hs => ?_)
  refine WL.nil ?_
  refine CW.seq ?_
  refine CW.reg ?_
  refine WL.val rfl (run_move) ?_
  refine WL.val rfl (run_nilCheck rfl) ?_
  refine WL.val rfl (run_field (o' := 73) Try.underlying129 rfl ty3 rfl rfl rfl) ?_
  refine WL.val rfl (run_load1 ty3 rfl ((hat.step hs (by simp)).cell (j := 73) hn0)) ?_
  refine WL.val rfl (run_remN (m := 64) rfl rfl (by decide)) ?_
  refine WL.val rfl (run_sub (c := ((119 - n % 64 : Nat) : Int)) rfl rfl (by omega) (by omega)) ?_
  refine WL.val rfl (run_remN (m := 64) rfl rfl (by decide)) ?_
  refine WL.val rfl (run_add (c := ((1 + (119 - n % 64) % 64 : Nat) : Int)) rfl rfl (by omega) (by omega)) ?_
  refine WL.val rfl (run_assign) ?_
  refine WL.nil ?_
  refine CW.seq ?_
  refine CW.reg ?_
  refine WL.val rfl (run_move) ?_
  refine WL.val rfl (run_add (c := ((1 + (119 - n % 64) % 64 + 8 : Nat) : Int)) rfl rfl (by omega) (by omega)) ?_
  refine WL.makeSlice (k := (1 + (119 - n % 64) % 64 + 8)) Try.underlying22 ty5 rfl (by omega) (by omega) rfl rfl rfl hs (fun b24 w hs => ?_)
  refine WL.val rfl (run_assign) ?_
  refine WL.nil ?_
  rw [flat_rep, u8s_rep] at hs
  have hset0 : (u8s (List.replicate (1 + (119 - n % 64) % 64 + 8) 0)).set (0 + 0 * 1) (.int .u8 128) = u8s (bufL n 0) := by
    rw [bufL_zero, show 1 + (119 - n % 64) % 64 + 8 = ((119 - n % 64) % 64 + 8) + 1 by omega, List.replicate_succ]; rfl
  have hbl : (u8s (List.replicate (1 + (119 - n % 64) % 64 + 8) 0)).length = 1 + (119 - n % 64) % 64 + 8 := by rw [u8s, List.length_map, List.length_replicate]
  refine CW.seq ?_
  refine CW.reg ?_
  refine WL.val rfl (run_move) ?_
  refine WL.val rfl (run_ixSlN (i := 0) Try.underlying22 ty5 rfl rfl (by omega)) ?_
  refine WL.store1 ty5 rfl rfl (rfl) hs (by first | (simp; done) | omega | (simp only [List.length_append, List.length_replicate, List.length_cons, List.length_nil, List.length_set]; omega) | (simp [Ent.cells, u8s]; done) | exact Nat.le_of_ble_eq_true rfl) (fun w hs => ?_)
  refine WL.nil ?_
  replace hs := (congrArg (fun cs => Step [] [(b24, blk 5 cs), (b3, blk 129 (hcs s bg rest n)), (b2, blk 27 (List.replicate 32 (Value.int .u8 0)))] w0 w) hset0).mp hs
  refine CW.seq <| CW.seq ?_
  refine CW.reg ?_
  refine WL.val rfl (run_move) ?_
  refine WL.nil ?_
  refine CW.block ?_
  refine CW.loop (fun m f w' => ∃ i, i ≤ 8 ∧ m = 8 - i ∧ Step [] [(b24, blk 5 (u8s (bufL n i))), (b3, blk 129 (hcs s bg rest n)), (b2, blk 27 (List.replicate 32 (Value.int .u8 0)))] w0 w' ∧ Holds f [(0, .pointer (some ⟨b, 0, none⟩)), (2, .pointer (some ⟨b2, 0, none⟩)), (3, .pointer (some ⟨b3, 0, none⟩)), (4, .int .i64 ((1 + (119 - n % 64) % 64) : Nat)), (5, .slice (some ⟨b24, 0, none⟩) ((1 + (119 - n % 64) % 64) + 8) ((1 + (119 - n % 64) % 64) + 8)), (27, .int .i64 (i : Nat))]) (m := 8) ?_ ?_
  · exact ⟨0, by omega, rfl, hs, rfl, rfl, rfl, rfl, rfl, rfl, trivial⟩
  · clear hs
    rintro m f w ⟨i, hi, rfl, hs, hf⟩
    have hobt := hf.chain
    obtain ⟨g, rfl⟩ := hobt
    refine CW.seq ?_
    refine CW.reg ?_
    refine WL.val rfl (run_lss rfl rfl) ?_
    refine WL.nil ?_
    refine CW.seq ?_
    refine CW.condP rfl (fun h => ?_) (fun h => ?_)
    · have hlt : i < 8 := by omega
      have hset : (u8s (bufL n i)).set (0 + ((1 + (119 - n % 64) % 64) + i) * 1) (.int .u8 (UInt8.ofNat (n * 8 % 18446744073709551616 / 256 ^ (7 - i))).toNat) = u8s (bufL n (i + 1)) := by
        rw [Nat.zero_add, Nat.mul_one, u8s_set, bufL_set hlt]
      have hbl : (u8s (bufL n i)).length = (1 + (119 - n % 64) % 64) + 8 := by rw [u8s, List.length_map, bufL_len hi]
      repeat (first | refine CW.seq ?_ | refine CW.block ?_ | refine CW.skip ?_)
      refine CW.reg ?_
      refine WL.val rfl (run_move) ?_
      refine WL.val rfl (run_assign) ?_
      refine WL.nil ?_
      refine CW.reg ?_
      refine WL.val rfl (run_move) ?_
      refine WL.val rfl (run_move) ?_
      refine WL.val rfl (run_move) ?_
      refine WL.val rfl (run_add (c := (((1 + (119 - n % 64) % 64) + i : Nat) : Int)) rfl rfl (by omega) (by omega)) ?_
      refine WL.val rfl (run_move) ?_
      refine WL.val rfl (run_nilCheck rfl) ?_
      refine WL.val rfl (run_field (o' := 73) Try.underlying129 rfl ty3 rfl rfl rfl) ?_
      refine WL.val rfl (run_load1 ty3 rfl ((hat.step hs (by simp)).cell (j := 73) hn0)) ?_
      refine WL.val rfl (run_convU64 Try.underlying3 Try.underlying130 rfl (by omega)) ?_
      refine WL.val rfl (run_shlU rfl rfl) ?_
      refine WL.val rfl (run_move) ?_
      refine WL.val rfl (run_sub (c := ((7 - i : Nat) : Int)) rfl rfl (by omega) (by omega)) ?_
      refine WL.val rfl (run_mul (c := ((8 * (7 - i) : Nat) : Int)) rfl rfl (by omega) (by omega)) ?_
      refine WL.val rfl (run_shrN (j := 7 - i) rfl rfl (by simp only [IntKind.bits]; omega)) ?_
      refine WL.val rfl (run_convU8 Try.underlying130 Try.underlying5 rfl) ?_
      refine WL.val rfl (run_ixSlN Try.underlying22 ty5 rfl rfl (by omega)) ?_
      refine WL.store1 ty5 rfl rfl (rfl) hs (by first | (simp; done) | omega | (simp only [List.length_append, List.length_replicate, List.length_cons, List.length_nil, List.length_set]; omega) | (simp [Ent.cells, u8s]; done) | exact Nat.le_of_ble_eq_true rfl) (fun w hs => ?_)
      refine WL.nil ?_
      replace hs := (congrArg (fun cs => Step [] [(b24, blk 5 cs), (b3, blk 129 (hcs s bg rest n)), (b2, blk 27 (List.replicate 32 (Value.int .u8 0)))] w0 w) hset).mp hs
      refine CW.reg ?_
      refine WL.val rfl (run_add (c := ((i + 1 : Nat) : Int)) rfl rfl (by omega) (by omega)) ?_
      refine WL.val rfl (run_move) ?_
      refine WL.nil ?_
      refine (show _ ∧ _ from ⟨rfl, _, ?_, i + 1, by omega, rfl, hs, rfl, rfl, rfl, rfl, rfl, rfl, trivial⟩)
      omega
    · obtain rfl : i = 8 := by omega
      subst hn
      have hbl : (bufL d.length 8).length = 1 + (119 - d.length % 64) % 64 + 8 := bufL_len (by decide)
      have hsl : Sl w 1 (.slice (some ⟨b24, 0, none⟩) (1 + (119 - d.length % 64) % 64 + 8) (1 + (119 - d.length % 64) % 64 + 8)) (bufL d.length 8).length (u8s (bufL d.length 8)) := by
        rw [hbl]; exact Sl.mk (by rw [u8s, List.length_map, hbl, Nat.mul_one]) hs.a0
      have hne : b24 ∉ [b3] := fun hm => by
        have h1 := hs.nodup
        simp at h1 hm
        exact h1.1.1 hm
      repeat (first | refine CW.seq ?_ | refine CW.exit ?_)
      refine CW.reg ?_
      refine WL.val rfl (run_move) ?_
      refine WL.enter rfl (run_call en61 rfl rfl) (write_spec (d := d) (x := bufL d.length 8) _ hs.tail.hd hI hsl (Nat.le_refl _) (.inr hne) (by rw [hbl]; omega)) ?_
      rintro e w ⟨rfl, s', bg', rest', hI', hq⟩
      refine ⟨_, rfl, ?_⟩
      replace hs := Step.call (L1 := [_]) (L := [_, _]) hs.swap hq
      refine WL.nil ?_
      rw [fillB_eq] at hI'
      have hsha := hI'.sha
      have hobt : ∃ S, cur bg' s' = S := ⟨_, rfl⟩
      obtain ⟨S, hS⟩ := hobt
      rw [hS] at hsha
      have hobt : ∃ G, digB S = G := ⟨_, rfl⟩
      obtain ⟨G, hG⟩ := hobt
      rw [hG] at hsha
      have hGl : G.length = 32 := by rw [← hG]; exact digB_len S
      refine CW.seq ?_
      refine CW.reg ?_
      refine WL.alloc ty27 rfl hs (fun b7 w hs => ?_)
      refine WL.nil ?_
      refine CW.seq <| CW.seq ?_
      refine CW.reg ?_
      refine WL.enter rfl (run_call en79 rfl rfl) (state_spec _ hs.tail.hd) ?_
      rintro e w ⟨rfl, hq⟩
      refine ⟨_, rfl, ?_⟩
      replace hs := hs.callE hq
      refine WL.val rfl (run_move) ?_
      refine WL.nil ?_
      rw [hS]
      replace hs : Step [] [(b7, blk 27 (u8s (digL G (4 * 0)))), (b2, blk 27 (List.replicate 32 (Value.int .u8 0)))] w0 w := by
        have e : u8s (digL G (4 * 0)) = List.replicate 32 (Value.int .u8 0) := by unfold digL; rw [u8s_rep]; rfl
        rw [e]
        exact Step.dropR (L1 := [_, _]) (hs.front [_, _, _]).swap
      refine CW.block ?_
      refine CW.loop (fun m f w' => ∃ i, i ≤ 8 ∧ m = 8 - i ∧ Step [] [(b7, blk 27 (u8s (digL G (4 * i)))), (b2, blk 27 (List.replicate 32 (Value.int .u8 0)))] w0 w' ∧ Holds f [(2, .pointer (some ⟨b2, 0, none⟩)), (7, .pointer (some ⟨b7, 0, none⟩)), (49, .agg (wvs S.l).toArray), (50, .int .i64 (i : Nat))]) (m := 8) ?_ ?_
      · exact ⟨0, by omega, rfl, hs, rfl, rfl, rfl, rfl, trivial⟩
      · clear hs
        rintro m f w ⟨i, hi, rfl, hs, hf⟩
        have hobt := hf.chain
        obtain ⟨g, rfl⟩ := hobt
        refine CW.seq ?_
        refine CW.reg ?_
        refine WL.val rfl (run_lss rfl rfl) ?_
        refine WL.nil ?_
        refine CW.seq ?_
        refine CW.condP rfl (fun h => ?_) (fun h => ?_)
        · have hlt : i < 8 := by omega
          have hS1 : (wvs S.l)[i]? = some (wv (S.l.getD i 0)) := St8_get hlt
          have hobt : ∃ X, S.l.getD i 0 = X := ⟨_, rfl⟩
          obtain ⟨X, hX⟩ := hobt
          rw [hX] at hS1
          repeat (first | refine CW.seq ?_ | refine CW.block ?_ | refine CW.skip ?_)
          refine CW.reg ?_
          refine WL.val rfl (run_move) ?_
          refine WL.val rfl (run_ixAgg Try.underlying125 ty124 rfl rfl (by omega) (hS1)) ?_
          refine WL.val rfl (run_assign) ?_
          refine WL.val rfl (run_assign) ?_
          refine WL.nil ?_
          refine CW.seq ?_
          refine CW.reg ?_
          refine WL.val rfl (run_move) ?_
          refine WL.nil ?_
          refine CW.block ?_
          refine CW.loop (fun m f w' => ∃ k, k ≤ 4 ∧ m = 4 - k ∧ Step [] [(b7, blk 27 (u8s (digL G (4 * i + k)))), (b2, blk 27 (List.replicate 32 (Value.int .u8 0)))] w0 w' ∧ Holds f [(2, .pointer (some ⟨b2, 0, none⟩)), (7, .pointer (some ⟨b7, 0, none⟩)), (8, .int .i64 (i : Nat)), (9, wv X), (49, .agg (wvs S.l).toArray), (50, .int .i64 (i : Nat)), (54, .int .i64 (k : Nat))]) (m := 4) ?_ ?_
          · exact ⟨0, by omega, rfl, hs, rfl, rfl, rfl, rfl, rfl, rfl, rfl, trivial⟩
          · clear hs
            rintro m f w ⟨k, hk, rfl, hs, hf⟩
            have hobt := hf.chain
            obtain ⟨g, rfl⟩ := hobt
            refine CW.seq ?_
            refine CW.reg ?_
            refine WL.val rfl (run_lss rfl rfl) ?_
            refine WL.nil ?_
            refine CW.seq ?_
            refine CW.condP rfl (fun h2 => ?_) (fun h2 => ?_)
            · have hlk : k < 4 := by omega
              have hset : (u8s (digL G (4 * i + k))).set (0 + (4 * i + k) * 1) (.int .u8 (UInt8.ofNat (X.toNat / 256 ^ (3 - k))).toNat) = u8s (digL G (4 * i + (k + 1))) := by
                rw [Nat.zero_add, Nat.mul_one, u8s_set, ← hX, ← digB_get hlt hlk, hG, digL_set (by omega) hGl, Nat.add_assoc]
              have hdl : (u8s (digL G (4 * i + k))).length = 32 := by rw [u8s, List.length_map, digL_len (by omega) hGl]
              repeat (first | refine CW.seq ?_ | refine CW.block ?_ | refine CW.skip ?_)
              refine CW.reg ?_
              refine WL.val rfl (run_move) ?_
              refine WL.val rfl (run_assign) ?_
              refine WL.nil ?_
              refine CW.reg ?_
              refine WL.val rfl (run_move) ?_
              refine WL.val rfl (run_mul (c := ((4 * i : Nat) : Int)) rfl rfl (by omega) (by omega)) ?_
              refine WL.val rfl (run_move) ?_
              refine WL.val rfl (run_add (c := ((4 * i + k : Nat) : Int)) rfl rfl (by omega) (by omega)) ?_
              refine WL.val rfl (run_move) ?_
              refine WL.val rfl (run_move) ?_
              refine WL.val rfl (run_sub (c := ((3 - k : Nat) : Int)) rfl rfl (by omega) (by omega)) ?_
              refine WL.val rfl (run_mul (c := ((8 * (3 - k) : Nat) : Int)) rfl rfl (by omega) (by omega)) ?_
              refine WL.val rfl (run_shrN (j := 3 - k) rfl rfl (by simp only [IntKind.bits]; omega)) ?_
              refine WL.val rfl (run_convU8 Try.underlying124 Try.underlying5 rfl) ?_
              refine WL.val rfl (run_ixArrN Try.underlying27 ty5 rfl rfl (by omega)) ?_
              refine WL.store1 ty5 rfl rfl (rfl) hs (by first | (simp; done) | omega | (simp only [List.length_append, List.length_replicate, List.length_cons, List.length_nil, List.length_set]; omega) | (simp [Ent.cells, u8s]; done) | exact Nat.le_of_ble_eq_true rfl) (fun w hs => ?_)
              refine WL.nil ?_
              replace hs := (congrArg (fun cs => Step [] [(b7, blk 27 cs), (b2, blk 27 (List.replicate 32 (Value.int .u8 0)))] w0 w) hset).mp hs
              refine CW.reg ?_
              refine WL.val rfl (run_add (c := ((k + 1 : Nat) : Int)) rfl rfl (by omega) (by omega)) ?_
              refine WL.val rfl (run_move) ?_
              refine WL.nil ?_
              refine (show _ ∧ _ from ⟨rfl, _, ?_, k + 1, by omega, rfl, hs, rfl, rfl, rfl, rfl, rfl, rfl, rfl, trivial⟩)
              omega
            · obtain rfl : k = 4 := by omega
              refine CW.exit ?_
              refine CW.reg ?_
              refine WL.val rfl (run_add (c := ((i + 1 : Nat) : Int)) rfl rfl (by omega) (by omega)) ?_
              refine WL.val rfl (run_move) ?_
              refine WL.nil ?_
              refine (show _ ∧ _ from ⟨rfl, _, ?_, i + 1, by omega, rfl, hs, rfl, rfl, rfl, rfl, trivial⟩)
              omega
        · obtain rfl : i = 8 := by omega
          rw [show 4 * 8 = 32 from rfl, digL_all hGl, hsha] at hs
          have hfl : (u8s (shaL d)).length = 32 := by rw [← hsha, u8s, List.length_map, hGl]
          repeat (first | refine CW.seq ?_ | refine CW.exit ?_)
          refine CW.reg ?_
          refine WL.val rfl (run_loadN ty27 rfl hfl hs.a0) ?_
          refine WL.storeAll_1 ty27 rfl rfl ((hfl)) (Cells1.u8s _) hs (by first | rfl | assumption) (fun w hs => ?_)
          refine WL.nil ?_
          refine CW.ret ?_
          refine fin_cell1 rfl rfl (run_loadVarN ty27 (by first | rfl | assumption | (simp; done)) hs.a1) ?_
          exact ⟨rfl, hs.clear⟩
end Go.Gx
/-! Sum6 -/
namespace Go.Gx
open Go.Proofs
set_option linter.unusedVariables false
set_option linter.unusedSimpArgs false
set_option maxRecDepth 100000

theorem shaL_len (b : List UInt8) : (shaL b).length = 32 := digB_len _
attribute [local irreducible] stBlock stBlocks hcs restW shaL fillB
theorem of_spec {v : Value} {x : List UInt8} {bp off c : Nat} (w0 : World) (hp : At w0 bp off [v]) (hv : Sl w0 1 v x.length (u8s x)) (hcap : Room v) (hsz : x.length < 2305843009213693952) :
    Calls Try.prog 46 #[.slice (some ⟨bp, off, none⟩) 1 c] w0 (Ret0 (.agg (u8s (shaL x)).toArray) w0) := by
  have hs : Step [] [] w0 w0 := Step.refl w0
  refine calls (n := 19) Try.func46 rfl rfl rfl ?_
  repeat (first | refine CW.seq ?_ | refine CW.block ?_ | refine CW.skip ?_ | refine CW.label ?_ | refine CW.exit ?_ | refine CW.condT rfl ?_ | refine CW.condF rfl ?_)
  refine CW.reg ?_
  refine WL.alloc ty27 rfl hs (fun b2 w hs => ?_)
  refine WL.nil ?_
  repeat (first | refine CW.seq ?_ | refine CW.block ?_ | refine CW.skip ?_ | refine CW.label ?_ | refine CW.exit ?_ | refine CW.condT rfl ?_ | refine CW.condF rfl ?_)
  refine CW.reg ?_
  refine WL.enter rfl (run_call en60 rfl rfl) (new_spec _) ?_
  rintro e w ⟨b6, rfl, hq⟩
  refine ⟨_, rfl, ?_⟩
  replace hs : Step [] [(b6, blk 129 (hcs ⟨0, 0, 0, 0, 0, 0, 0, 0⟩ false (List.replicate 64 0) 0)), (b2, blk 27 (List.replicate 32 (Value.int .u8 0)))] w0 _ := Step.call0 hs hq
  refine WL.val rfl (run_assign) ?_
  refine WL.nil ?_
  repeat (first | refine CW.seq ?_ | refine CW.block ?_ | refine CW.skip ?_ | refine CW.label ?_ | refine CW.exit ?_ | refine CW.condT rfl ?_ | refine CW.condF rfl ?_)
  refine CW.reg ?_
  refine WL.val rfl (run_move) ?_
  refine WL.val rfl (run_lenSl Try.underlying109 rfl) ?_
  refine WL.val rfl (run_move) ?_
  refine WL.nil ?_
  have ho : x = [] ∨ Outside v [b6] := by
    rcases Outside.newer (S := [b6]) hv hs (fun k hk => by simp at hk; subst hk; simp) with h | h
    · left; simpa [u8s] using h
    · exact .inr h
  repeat (first | refine CW.seq ?_ | refine CW.block ?_ | refine CW.skip ?_ | refine CW.label ?_ | refine CW.exit ?_ | refine CW.condT rfl ?_ | refine CW.condF rfl ?_)
  refine CW.loop (fun m f w' => ∃ (i : Nat) (d : List UInt8) (s : St8) (bg : Bool) (rest : List UInt8), i ≤ 1 ∧ m = 1 - i ∧ (i = 0 → d = []) ∧ (i = 1 → d = x) ∧ HInv d s bg rest ∧ Step [] [(b6, blk 129 (hcs s bg rest d.length)), (b2, blk 27 (List.replicate 32 (Value.int .u8 0)))] w0 w' ∧ Holds f [(2, .pointer (some ⟨b2, 0, none⟩)), (3, .pointer (some ⟨b6, 0, none⟩)), (7, .slice (some ⟨bp, off, none⟩) 1 c), (8, .int .i64 (1 : Nat)), (9, .int .i64 (i : Nat))]) (m := 1) ?_ ?_
  · exact ⟨0, [], _, _, _, by omega, rfl, fun _ => rfl, fun h => absurd h (by decide), HInv.zero, hs, rfl, rfl, rfl, rfl, rfl, trivial⟩
  · clear hs
    rintro m f w ⟨i, d, s, bg, rest, hi, rfl, h0, h1, hI, hs, hf⟩
    have hobt := hf.chain
    obtain ⟨g, rfl⟩ := hobt
    repeat (first | refine CW.seq ?_ | refine CW.block ?_ | refine CW.skip ?_ | refine CW.label ?_ | refine CW.exit ?_ | refine CW.condT rfl ?_ | refine CW.condF rfl ?_)
    refine CW.reg ?_
    refine WL.val rfl (run_lss rfl rfl) ?_
    refine WL.nil ?_
    repeat (first | refine CW.seq ?_ | refine CW.block ?_ | refine CW.skip ?_ | refine CW.label ?_ | refine CW.exit ?_)
    first | refine CW.condP rfl (fun h => ?_) (fun h => ?_) | refine CW.cond rfl (fun h => ?_) (fun h => ?_)
    · obtain rfl : i = 0 := by omega
      obtain rfl : d = [] := h0 rfl
      repeat (first | refine CW.seq ?_ | refine CW.block ?_ | refine CW.skip ?_ | refine CW.label ?_ | refine CW.exit ?_ | refine CW.condT rfl ?_ | refine CW.condF rfl ?_)
      refine CW.reg ?_
      first | refine WL.val rfl (run_ixSlN Try.underlying109 ty22 rfl rfl (by omega)) ?_ | refine WL.val rfl (run_ixSl Try.underlying109 ty22 rfl rfl (by omega)) ?_
      refine WL.val rfl (run_load1 ty22 rfl ((hp.step hs (by simp)).cell (j := 0) rfl)) ?_
      refine WL.val rfl (run_assign) ?_
      refine WL.nil ?_
      repeat (first | refine CW.seq ?_ | refine CW.block ?_ | refine CW.skip ?_ | refine CW.label ?_ | refine CW.exit ?_ | refine CW.condT rfl ?_ | refine CW.condF rfl ?_)
      refine CW.reg ?_
      refine WL.val rfl (run_move) ?_
      refine WL.val rfl (run_move) ?_
      refine WL.enter rfl (run_call en61 rfl rfl) (write_spec (d := []) (x := x) _ hs.hd hI (hv.step0 hs) hcap ho (by simp; omega)) ?_
      rintro e w ⟨rfl, s', bg', rest', hI', hq⟩
      refine ⟨_, rfl, ?_⟩
      replace hs := Step.call (L1 := [_]) (L := [_]) hs hq
      refine WL.nil ?_
      repeat (first | refine CW.seq ?_ | refine CW.block ?_ | refine CW.skip ?_ | refine CW.label ?_ | refine CW.exit ?_ | refine CW.condT rfl ?_ | refine CW.condF rfl ?_)
      refine CW.reg ?_
      refine WL.val rfl (run_add (c := ((0 + 1 : Nat) : Int)) rfl rfl (by omega) (by omega)) ?_
      refine WL.val rfl (run_move) ?_
      refine WL.nil ?_
      repeat (first | refine CW.seq ?_ | refine CW.block ?_ | refine CW.skip ?_ | refine CW.label ?_ | refine CW.exit ?_)
      refine (show _ ∧ _ from ⟨rfl, _, ?_, 0 + 1, _, _, _, _, by omega, rfl, fun h => absurd h (by decide), fun _ => List.nil_append _, hI', hs, rfl, rfl, rfl, rfl, rfl, trivial⟩)
      omega
    · obtain rfl : i = 1 := by omega
      obtain rfl := h1 rfl
      have hl : (u8s (shaL d)).length = 32 := by rw [u8s, List.length_map, shaL_len]
      repeat (first | refine CW.seq ?_ | refine CW.block ?_ | refine CW.skip ?_ | refine CW.label ?_ | refine CW.exit ?_ | refine CW.condT rfl ?_ | refine CW.condF rfl ?_)
      refine CW.reg ?_
      refine WL.val rfl (run_move) ?_
      refine WL.enter rfl (run_call en62 rfl rfl) (sum_spec _ hs.hd hI hsz) ?_
      rintro e w ⟨rfl, hq⟩
      refine ⟨_, rfl, ?_⟩
      replace hs := hs.callE hq
      first | refine WL.storeAll ty27 rfl rfl ((hl)) (Cells1.u8s _) hs (by first | rfl | assumption) (fun w hs => ?_) | refine WL.storeAll_1 ty27 rfl rfl ((hl)) (Cells1.u8s _) hs (by first | rfl | assumption) (fun w hs => ?_) | refine WL.storeAll_2 ty27 rfl rfl ((hl)) (Cells1.u8s _) hs (by first | rfl | assumption) (fun w hs => ?_) | refine WL.storeAll_3 ty27 rfl rfl ((hl)) (Cells1.u8s _) hs (by first | rfl | assumption) (fun w hs => ?_) | refine WL.storeAll_4 ty27 rfl rfl ((hl)) (Cells1.u8s _) hs (by first | rfl | assumption) (fun w hs => ?_) | refine WL.storeAll ty27 rfl rfl ((hl)) (Cells1.u8s _) hs (by first | rfl | assumption) (fun w hs => ?_)
      refine WL.nil ?_
      repeat (first | refine CW.seq ?_ | refine CW.block ?_ | refine CW.skip ?_ | refine CW.label ?_ | refine CW.exit ?_ | refine CW.condT rfl ?_ | refine CW.condF rfl ?_)
      refine CW.ret ?_
      first | refine fin_cell1 rfl rfl (run_loadVarN ty27 (by first | rfl | assumption | (simp; done)) hs.a0) ?_ | refine fin_cell1 rfl rfl (run_loadVarN ty27 (by first | rfl | assumption | (simp; done)) hs.a1) ?_ | refine fin_cell1 rfl rfl (run_loadVarN ty27 (by first | rfl | assumption | (simp; done)) hs.a2) ?_ | refine fin_cell1 rfl rfl (run_loadVarN ty27 (by first | rfl | assumption | (simp; done)) hs.a3) ?_ | refine fin_cell1 rfl rfl (run_loadVarN ty27 (by first | rfl | assumption | (simp; done)) hs.a4) ?_ | refine fin_cell1 rfl rfl (run_loadVarN ty27 (by first | rfl | assumption | (simp; done)) hs.a5) ?_
      exact ⟨rfl, hs.clear⟩
end Go.Gx
/-! PrimB -/
namespace Go.Gx
set_option linter.unusedVariables false
set_option linter.unusedSimpArgs false

section
variable {P : Program} {f : Slots} {w : World} {d : Option Tmp} {ty : TypeId} {pos : String} {af : Array Edge} {x y : Operand} {T T' E : TypeId}
theorem run_eqSlNil {a : Option Addr} {n c n' c' : Nat} (ht : P.underlying T = some (.slice E)) (hx : ev f x = .slice a n c) :
    (execOp (ev f) ⟨d, .binOp .eql T x (.const (.slice none n' c')) T', ty, pos, af, none⟩).run P w = .ok (.value (.bool a.isNone)) w := by
  have e : ev f (.const (.slice none n' c')) = .slice none n' c' := rfl
  have h := Lib.run_eql_slice_nil w T E a n c n' c' ht
  simp [execOp, hx, e, eqGuard, h]
theorem run_neSlNil {a : Option Addr} {n c n' c' : Nat} (ht : P.underlying T = some (.slice E)) (hx : ev f x = .slice a n c) :
    (execOp (ev f) ⟨d, .binOp .neq T x (.const (.slice none n' c')) T', ty, pos, af, none⟩).run P w = .ok (.value (.bool a.isSome)) w := by
  have e : ev f (.const (.slice none n' c')) = .slice none n' c' := rfl
  have h0 : (Op.equal T (.slice a n c) (.slice none n' c')).run P w = .ok a.isNone w := by simp [Op.equal, Op.maxDepth, Lib.run_equalIn_slice_nil w 9999 T E a n c n' c' ht]
  simp [execOp, hx, e, eqGuard, binOp, h0]

theorem run_callExt {F : FuncId} {fn : Func} {e : Array Value → Sem Value} {fo : Operand} {args : Array Operand} {ats : Array TypeId} {vs : List Value} {v : Value} {w' : World} (hf : P.funcs[F]? = some fn) (hname : (fn.name == "runtime.NumGoroutine") = false)
    (hb : fn.body.isNone = true) (hn : Extern.findNext fn = none) (he : Extern.find fn = some e) (hx : ev f fo = .func (.func F) #[] #[]) (hv : args.toList.map (ev f) = vs) (hr : (e vs.toArray).run P w = .ok v w') :
    (execOp (ev f) ⟨d, .call { callee := .value fo, args, argTypes := ats }, ty, pos, af, none⟩).run P w = .ok (.value v) w' := by
  have e1 : args.map (ev f) = vs.toArray := by rw [← hv]; apply Array.ext'; simp
  have h := run_callFunc_extern hf hname hb hn he vs.toArray w
  rw [hr] at h
  simp [execOp, resolve, hx, Deferred.ofValue, invoke, e1, h]

theorem shape_blk {b : Nat} {cs : List Value} (h : w.heap[b]? = some (blk T cs)) : w.shape? b = some (T, cs.length) := by
  simp [World.shape?, h, blk]

/-- slices.overlaps of slices in two blocks. -/
theorem run_overlaps {agg : Bool} {sz bytes b1 o1 n1 c1 b2 o2 n2 c2 : Nat} {zs cs1 cs2 : List Value} {T1 T2 R : TypeId} (ht : P.underlying T = some (.slice E)) (hE : Ty P E agg sz bytes zs) (hne : b1 ≠ b2)
    (h1 : w.heap[b1]? = some (blk T1 cs1)) (h2 : w.heap[b2]? = some (blk T2 cs2)) (hl : cs2.length ≠ 0) :
    (Extern.SlicesOverlaps.overlaps #[T, T] #[R] #[.slice (some ⟨b1, o1, none⟩) n1 c1, .slice (some ⟨b2, o2, none⟩) n2 c2]).run P w = .ok (.bool false) w :=
  Lib.run_overlaps_apart w T R E ht sz (fun w => run_sizeOf hE w) ⟨b1, o1, none⟩ ⟨b2, o2, none⟩ n1 c1 n2 c2 hne T1 T2 _ _ (shape_blk h1) (shape_blk h2) hl (frozen_blk h1 _) (frozen_blk h1 _)
end

section
variable {P : Program} {ops : Array Oper} {Q : Post} {n : Nat} {rest : List Oper} {f : Slots} {ds : List Deferred} {w w0 : World} {ty : TypeId} {pos : String} {af : Array Edge} {x y : Operand} {T T' E : TypeId} {d : Nat} {S : List Nat} {L : List (Nat × Obj)}

/-- copy(v, u), where we know of what is copied alone that it is cells. -/
theorem WL.copyT {agg : Bool} {sz bytes len cap m b off : Nat} {zs cs ys : List Value} {E T' Tb : TypeId} {u : Value} {dd : Option Nat} (ht : P.underlying T = some (.slice E)) (hE : Ty P E agg sz bytes zs)
    (hx : ev f x = .slice (some ⟨b, off, none⟩) len cap) (hy : ev f y = u) (hs : Step S ((b, blk Tb cs) :: L) w0 w) (hu : Sl w sz u m ys) (hc1 : Cells1 (ys.take (min m len * sz))) (hlen : off + len * sz ≤ cs.length) (hd : ∀ k, dd = some k → Nat.blt k n = true)
    (h : ∀ w', Step S ((b, blk Tb (splice cs off (ys.take (min m len * sz)))) :: L) w0 w' → (∀ k, dd = some k → WL P ops Q n rest (upd f k (.int .i64 (min m len : Nat))) ds w') ∧ (dd = none → WL P ops Q n rest f ds w')) :
    WL P ops Q n (⟨dd, .call { callee := .builtin .copy, args := #[x, y], argTypes := #[T, T'] }, ty, pos, af, none⟩ :: rest) f ds w := by
  have hly := hu.1
  have htl : (ys.take (min m len * sz)).length = min m len * sz := by
    rw [List.length_take, hly]
    exact Nat.min_eq_left (Nat.mul_le_mul_right _ (Nat.min_le_left _ _))
  have hle : min m len * sz ≤ len * sz := Nat.mul_le_mul_right _ (Nat.min_le_right _ _)
  have hf : (Builtin.firstCells sz (min m len) u).run P w = .ok (ys.take (min m len * sz)).toArray w := by
    obtain ⟨_, ⟨a, c, rfl, rfl⟩ | ⟨b', off', c, rfl, hat⟩⟩ := hu
    · have : ys = [] := by simpa using hly
      subst this
      cases a <;> simp [Builtin.firstCells, loadCells] <;> rfl
    · have := run_loadCells_at (P := P) (hat.take (min m len * sz))
      rw [htl] at this
      simpa [Builtin.firstCells] using this
  have hst := run_storeCells (P := P) (ys.take (min m len * sz)) 0 off b Tb cs w hs.hd (by rw [htl]; omega) hc1
  have hrun : (execOp (ev f) ⟨dd, .call { callee := .builtin .copy, args := #[x, y], argTypes := #[T, T'] }, ty, pos, af, none⟩).run P w = .ok (.value (.int .i64 (min m len : Nat))) (setRow w b (off + 0) (ys.take (min m len * sz))) := by
    have hmin : Nat.min m len = min m len := rfl
    simp [execOp, hx, hy, resolve, invoke, builtin, Builtin.copy_, run_underlying ht, run_sizeOf hE, run_lenOf hu, hmin, hf, hst, goInt]
  have hstep := Step.row (ys.take (min m len * sz)) off cs w hs (by rw [htl]; omega)
  have hobt := h _ hstep
  obtain ⟨h1, h2⟩ := hobt
  cases dd with
  | none => exact WL.drop hrun (h2 rfl)
  | some k => exact WL.val (hd k rfl) hrun (h1 k rfl)

/-- append(v, u...) where v has the room. -/
theorem WL.appendIn {agg : Bool} {sz bytes k m cap b : Nat} {zs xs ys more : List Value} {u : Value} (ht : P.underlying T = some (.slice E)) (ht' : P.underlying T' = some (.slice E)) (hE : Ty P E agg sz bytes zs) (hzl : zs.length = sz)
    (hx : ev f x = .slice (some ⟨b, 0, none⟩) k cap) (hy : ev f y = u) (hl : xs.length = k * sz) (hs : Step S ((b, blk E (xs ++ more)) :: L) w0 w) (hcap : (xs ++ more).length = cap * sz) (hu : Sl w sz u m ys) (hc1 : Cells1 ys) (hfit : k + m ≤ cap) (hd : Nat.blt d n = true)
    (h : ∀ w', Step S ((b, blk E (xs ++ ys ++ more.drop ys.length)) :: L) w0 w' → WL P ops Q n rest (upd f d (.slice (some ⟨b, 0, none⟩) (k + m) cap)) ds w') :
    WL P ops Q n (⟨some d, .call { callee := .builtin .append, args := #[x, y], argTypes := #[T, T'] }, ty, pos, af, none⟩ :: rest) f ds w := by
  have hly := hu.1
  have hlm : (xs ++ more).length = xs.length + more.length := by simp
  have hle : ys.length ≤ more.length := by
    have : (k + m) * sz ≤ cap * sz := Nat.mul_le_mul_right _ hfit
    rw [Nat.add_mul] at this
    omega
  have hst := run_storeCells (P := P) ys 0 (k * sz) b E (xs ++ more) w hs.hd (by rw [hlm]; omega) hc1
  have hr := run_append_in (ty := ty) (b := b) ht (.inl ⟨E, ht'⟩) hE (run_lenOf hu) (run_firstCells hu) hfit
  rw [hst] at hr
  have hrow := Step.row ys (k * sz) (xs ++ more) w hs (by rw [hlm]; omega)
  rw [← hl, splice_end xs more ys hle] at hrow
  rw [Nat.add_zero, ← hl] at hr
  refine WL.val hd ?_ (h _ hrow)
  simp [execOp, hx, hy, resolve, invoke, builtin, hr]

/-- append(v, make([]T, m)...) where v has not the room. -/
theorem WL.appendZ {agg : Bool} {sz bytes k m cap : Nat} {zs xs : List Value} {a : Option Addr} {kn : IntKind} (ht : P.underlying T = some (.slice E)) (ht' : P.underlying T' = some (.int kn)) (hE : Ty P E agg sz bytes zs) (hzl : zs.length = sz) (hb0 : 0 < bytes)
    (hx : ev f x = .slice a k cap) (hy : ev f y = .int .i64 m) (hold : Sl w sz (.slice a k cap) k xs) (hs : Step S L w0 w) (hfit : cap < k + m) (hroom : (k + m) * bytes ≤ 140737488355328) (hd : Nat.blt d n = true)
    (h : ∀ v' Lv' w', OwnSl E sz v' (k + m) (xs ++ (List.replicate m zs).flatten) Lv' → Step S (Lv' ++ L) w0 w' → WL P ops Q n rest (upd f d v') ds w') :
    WL P ops Q n (⟨some d, .call { callee := .builtin .append, args := #[x, y], argTypes := #[T, T'] }, ty, pos, af, none⟩ :: rest) f ds w := by
  have hobt := hE.info
  obtain ⟨i, z0, hi, hsz, hby, hz0, hc0, _⟩ := hobt
  have hn : ¬ (k + m ≤ cap) := by omega
  have hkm : (k + m) * 1 ≤ (k + m) * bytes := Nat.mul_le_mul_left _ hb0
  have h63' : ¬ (9223372036854775807 < ((k : Int) + (m : Int))) := by omega
  have h48' : ¬ (281474976710656 < Builtin.nextslicecap (k + m) cap * i.bytes) := by
    rw [hby]
    have := growslice_fits (old := cap) (bytes := bytes) (need := k + m) (by omega) hroom
    omega
  have hwm : IntKind.i64.wrap (m : Int) = m := wrap_i64 (by omega)
  have hm48 : ¬ (281474976710656 < (m : Int) * (i.bytes : Int)) := by
    rw [hby]
    have h1 : m * bytes ≤ (k + m) * bytes := Nat.mul_le_mul_right _ (by omega)
    have h2 : ((m * bytes : Nat) : Int) ≤ ((140737488355328 : Nat) : Int) := Int.ofNat_le.2 (Nat.le_trans h1 hroom)
    rw [Int.natCast_mul] at h2
    omega
  have hmneg : ¬ ((m : Int) < 0) := by omega
  have hzc : ∀ j, Builtin.zeroCells z0.cells j = ((List.replicate j zs).flatten).toArray := fun j => by
    rw [hc0]
    have := zero_row zs j
    simpa [Builtin.zeroCells] using this
  have hblk : ∀ l : List Value, Obj.cells l.toArray E = blk E l := fun l => rfl
  have hod := run_firstCells_drew (P := P) hold
  have hxl := hold.1
  have hle : k + m ≤ grownCap w (k + m) cap E := by unfold grownCap Question.cut; exact Nat.le_add_right _ _
  have hr : (Builtin.append_ #[T, T'] ty #[.slice a k cap, .int .i64 m]).run P w = .ok (.slice (some ⟨w.heap.size, 0, none⟩) (k + m) (grownCap w (k + m) cap E)) (w.drew.alloc (blk E (xs ++ (List.replicate m zs).flatten ++ (List.replicate (grownCap w (k + m) cap E - (k + m)) zs).flatten))) := by
    by_cases h0 : m * sz = 0
    · have hfl : (List.replicate m zs).flatten = [] := by
        apply List.eq_nil_of_length_eq_zero
        simp only [List.length_flatten, List.map_replicate, List.sum_replicate_nat, hzl, h0]
      rw [hfl]
      subst hsz
      simp [Builtin.append_, run_underlying ht, run_underlying ht', sizeOf, typeInfo, zeroValue, hi, hz0, hn, h63', h48', Question.forced, hod, newRow, grownCap, hzc, hblk, asInt, asIntOf, hwm, hm48, hmneg, h0]
    · subst hsz
      simp [Builtin.append_, run_underlying ht, run_underlying ht', sizeOf, typeInfo, zeroValue, hi, hz0, hn, h63', h48', Question.forced, hod, newRow, grownCap, hzc, hblk, asInt, asIntOf, hwm, hm48, hmneg, h0]
  refine WL.val hd (v := .slice (some ⟨w.heap.size, 0, none⟩) (k + m) (grownCap w (k + m) cap E)) (w' := w.drew.alloc (blk E (xs ++ (List.replicate m zs).flatten ++ (List.replicate (grownCap w (k + m) cap E - (k + m)) zs).flatten))) ?_ (h _ [(w.heap.size, _)] _ ⟨?_, .inr ⟨_, _, _, rfl, rfl, ?_⟩⟩ (hs.drew.alloc _))
  · simp [execOp, hx, hy, resolve, invoke, builtin, hr]
  · simp [hxl, hzl, Nat.add_mul]
  · simp only [List.length_append, List.length_flatten, List.map_replicate, List.sum_replicate_nat, hxl, hzl, ← Nat.add_mul]
    congr 1
    omega

/-- clear(v), v some elements of a block of ours. -/
theorem WL.clear {agg : Bool} {sz bytes k cap b off : Nat} {zs cs : List Value} {T2 : TypeId} (ht : P.underlying T = some (.slice E)) (hE : Ty P E agg sz bytes zs) (hzl : zs.length = sz)
    (hx : ev f x = .slice (some ⟨b, off, none⟩) k cap) (hs : Step S ((b, blk T2 cs) :: L) w0 w) (hk : 0 < k) (hlen : off + k * sz ≤ cs.length) (hz1 : (zs.all fun v => v.oneCell') = true)
    (h : ∀ w', Step S ((b, blk T2 (splice cs off (List.replicate k zs).flatten)) :: L) w0 w' → WL P ops Q n rest f ds w') :
    WL P ops Q n (⟨none, .call { callee := .builtin .clear, args := #[x], argTypes := #[T] }, ty, pos, af, none⟩ :: rest) f ds w := by
  have hobt := hE.info
  obtain ⟨i, z0, hi, hsz, hby, hz0, hc0, _⟩ := hobt
  have hzc : Builtin.zeroCells z0.cells k = ((List.replicate k zs).flatten).toArray := by
    rw [hc0]
    have := zero_row zs k
    simpa [Builtin.zeroCells] using this
  have hl : ((List.replicate k zs).flatten).length = k * sz := by
    simp only [List.length_flatten, List.map_replicate, List.sum_replicate_nat, hzl]
  have hc1 : Cells1 (List.replicate k zs).flatten := fun v hv => by
    have hobt := List.mem_flatten.1 hv
    obtain ⟨l, hl1, hl2⟩ := hobt
    rw [List.mem_replicate] at hl1
    rw [hl1.2] at hl2
    exact List.all_eq_true.1 hz1 v hl2
  have hst := run_storeCells (P := P) (List.replicate k zs).flatten 0 off b T2 cs w hs.hd (by rw [hl]; omega) hc1
  have hr : (Builtin.clear_ #[T] ty #[.slice (some ⟨b, off, none⟩) k cap]).run P w = .ok (.tuple #[]) (setRow w b (off + 0) (List.replicate k zs).flatten) := by
    match k, hk with
    | k' + 1, _ =>
      simp only [Builtin.clear_, Sem.run_bind, List.getElem?_toArray, List.getElem?_cons_zero, run_underlying ht, Result.andThen_ok]
      simp [zeroValue, typeInfo, hi, hz0, hzc, hst]
  refine WL.drop (v := .tuple #[]) ?_ (h _ (Step.row _ off cs w hs (by rw [hl]; omega)))
  simp only [execOp, resolve, invoke, builtin, Sem.run_bind, Sem.run_pure, Result.andThen_ok, List.map_toArray, List.map_cons, List.map_nil, hx, hr]
  rfl
end
end Go.Gx
/-! Cut -/
namespace Go.Gx
open Go.Proofs
set_option linter.unusedVariables false
set_option linter.unusedSimpArgs false
set_option maxRecDepth 100000
theorem mapM_some' {α β : Type} {f : α → Option β} {g : α → β} : ∀ (l : List α), (∀ x ∈ l, f x = some (g x)) → l.mapM f = some (l.map g)
  | [], _ => rfl
  | x :: l, h => by
    rw [List.mapM_cons, h x (by simp), mapM_some' l (fun y hy => h y (by simp [hy]))]
    rfl
theorem Ty.cellsOf {P : Program} {T : TypeId} {agg : Bool} {n b : Nat} {zs : List Value} (h : Ty P T agg n b zs) : P.cellsOf T = n := by
  have hobt := h.info
  obtain ⟨i, z, hi, hs, _⟩ := hobt
  simp [Program.cellsOf, hi, hs]
def u8l (l : List UInt8) : List Lit := l.map fun c => .int .u8 c.toNat
theorem u8l_inj {a b : List UInt8} (h : u8l a = u8l b) : a = b := by
  refine (List.map_inj_right (f := fun (c : UInt8) => Lit.int .u8 c.toNat) ?_).1 h
  intro x y hxy
  injection hxy with _ h1
  have : x.toNat = y.toNat := by omega
  exact UInt8.toNat_inj.1 this
theorem flatten_single {α β : Type} (l : List α) (g : α → β) : (l.map fun x => [g x]).flatten = l.map g := by
  induction l with
  | nil => rfl
  | cons a l ih => simp [ih]
theorem lits_u8 {P : Program} {T E : TypeId} {n d bT bE : Nat} {zT zE : List Value} {l : List UInt8} (hT : P.underlying T = some (.array n E)) (hE : P.underlying E = some (.int .u8)) (tT : Ty P T true n bT zT) (tE : Ty P E false 1 bE zE) (hl : l.length = n) :
    P.keyLits (d + 2) T (u8s l) = some (u8l l) := by
  have hone : ∀ c : UInt8, P.keyLits (d + 1) E [.int .u8 c.toNat] = some [.int .u8 c.toNat] := fun c => by
    have hw : (Lit.int .u8 c.toNat).wf = true := by
      have := c.toNat_lt
      simp only [Lit.wf, IntKind.min, IntKind.max, IntKind.signed, IntKind.bits, Bool.and_eq_true, decide_eq_true_eq]
      simp
      omega
    unfold Program.keyLits
    simp [hE, hw]
  have hm : (List.range n).mapM (fun i => P.keyLits (d + 1) E (((u8s l).drop (i * P.cellsOf E)).take (P.cellsOf E))) = some ((List.range n).map fun i => [Lit.int .u8 (l.getD i 0).toNat]) := by
    refine mapM_some' _ fun i hi => ?_
    have hi' : i < l.length := by rw [hl]; exact List.mem_range.1 hi
    rw [tE.cellsOf, Nat.mul_one, ← hone]
    congr 1
    rw [List.drop_eq_getElem_cons (by simpa [u8s] using hi')]
    simp [u8s, List.getElem?_eq_getElem hi']
  have hlen : (u8s l).length = P.cellsOf T := by rw [tT.cellsOf, ← hl]; simp [u8s]
  unfold Program.keyLits
  simp only [hT, hlen, if_true, hm, Option.map_some, Option.some.injEq]
  rw [flatten_single (List.range n) (fun i => Lit.int .u8 (l.getD i 0).toNat)]
  apply List.ext_getElem?
  intro i
  by_cases hi : i < n
  · simp [u8l, hi, List.getElem?_eq_getElem (show i < l.length by omega)]
  · simp [u8l, hi, List.getElem?_eq_none (show l.length ≤ i by omega)]
section
variable {P : Program} {f : Slots} {w : World} {d : Option Tmp} {ty : TypeId} {pos : String} {af : Array Edge} {x y : Operand} {T T' : TypeId}
theorem run_equal_agg {xs ys : List Value} {lx ly : List Lit} {D : Nat} {p : Prop} [Decidable p] (hp : lx = ly ↔ p) (hk : P.keyTypeAt 5 T = true) (hfx : Value.formed P T (.agg xs.toArray) = true) (hfy : Value.formed P T (.agg ys.toArray) = true) (hx : P.keyLits D T xs = some lx) (hy : P.keyLits D T ys = some ly) :
    (Op.equalIn 10000 T (.agg xs.toArray) (.agg ys.toArray)).run P w = .ok (decide p) w := by
  have hobt := run_equalIn_deep 9995 5 T hk w D D (.agg xs.toArray) (.agg ys.toArray) lx ly hfx hfy (by simpa [Value.cells] using hx) (by simpa [Value.cells] using hy)
  obtain ⟨r, hr, hiff⟩ := hobt
  have e : r = decide p := by
    by_cases h : p
    · simp [h, hiff.2 (hp.2 h)]
    · simp [h]
      cases r
      · rfl
      · exact absurd (hp.1 (hiff.1 rfl)) h
  rw [← e]
  exact hr
theorem run_eqlAgg {xs ys : List Value} {lx ly : List Lit} {D : Nat} {p : Prop} [Decidable p] (hp : lx = ly ↔ p) (hk : P.keyTypeAt 5 T = true) (hfx : Value.formed P T (.agg xs.toArray) = true) (hfy : Value.formed P T (.agg ys.toArray) = true) (hg : P.eqGuardType P.depth T = false) (hx : ev f x = .agg xs.toArray) (hy : ev f y = .agg ys.toArray) (hlx : P.keyLits D T xs = some lx) (hly : P.keyLits D T ys = some ly) :
    (execOp (ev f) ⟨d, .binOp .eql T x y T', ty, pos, af, none⟩).run P w = .ok (.value (.bool (decide p))) w := by
  simp [execOp, hx, hy, run_eqGuard_agg w .eql T x y _ _ hg, run_eql_struct, run_equal_agg hp hk hfx hfy hlx hly]
theorem run_neqAgg {xs ys : List Value} {lx ly : List Lit} {D : Nat} {p : Prop} [Decidable p] (hp : lx = ly ↔ p) (hk : P.keyTypeAt 5 T = true) (hfx : Value.formed P T (.agg xs.toArray) = true) (hfy : Value.formed P T (.agg ys.toArray) = true) (hg : P.eqGuardType P.depth T = false) (hx : ev f x = .agg xs.toArray) (hy : ev f y = .agg ys.toArray) (hlx : P.keyLits D T xs = some lx) (hly : P.keyLits D T ys = some ly) :
    (execOp (ev f) ⟨d, .binOp .neq T x y T', ty, pos, af, none⟩).run P w = .ok (.value (.bool (decide (¬ p)))) w := by
  have e : (!decide p) = decide (¬ p) := by by_cases h : p <;> simp [h]
  simp only [execOp, hx, hy, Sem.run_bind, run_eqGuard_agg w .neq T x y _ _ hg, Result.andThen_ok, run_neq_struct, run_equal_agg hp hk hfx hfy hlx hly, Sem.run_pure, e]
end
section
variable {P : Program} {ops : Array Oper} {n : Nat} {rest : List Oper} {f : Slots} {ds : List Deferred} {w w0 : World} {S : List Nat} {L : List (Nat × Obj)} {Q : Post} {ty : TypeId} {pos : String} {af : Array Edge} {x : Operand} {T E : TypeId}
theorem WL.clearA {agg : Bool} {sz bytes k cap b off : Nat} {zs cs : List Value} {T2 : TypeId} (ht : P.underlying T = some (.slice E)) (hE : Ty P E agg sz bytes zs) (hzl : zs.length = sz)
    (hx : ev f x = .slice (some ⟨b, off, none⟩) k cap) (hs : Step S ((b, blk T2 cs) :: L) w0 w) (hlen : off + k * sz ≤ cs.length) (hz1 : (zs.all fun v => v.oneCell') = true)
    (h : ∀ w', Step S ((b, blk T2 (splice cs off (List.replicate k zs).flatten)) :: L) w0 w' → WL P ops Q n rest f ds w') :
    WL P ops Q n (⟨none, .call { callee := .builtin .clear, args := #[x], argTypes := #[T] }, ty, pos, af, none⟩ :: rest) f ds w := by
  match k, hx, hlen, h with
  | k' + 1, hx, hlen, h => exact WL.clear ht hE hzl hx hs (Nat.succ_pos k') hlen hz1 h
  | 0, hx, hlen, h =>
    have hr : (Builtin.clear_ #[T] ty #[.slice (some ⟨b, off, none⟩) 0 cap]).run P w = .ok (.tuple #[]) w := by
      simp only [Builtin.clear_, Sem.run_bind, List.getElem?_toArray, List.getElem?_cons_zero, run_underlying ht, Result.andThen_ok]
      rfl
    refine WL.drop (v := .tuple #[]) ?_ (h w (by rw [List.replicate_zero, List.flatten_nil, splice_nil]; exact hs))
    simp only [execOp, resolve, invoke, builtin, Sem.run_bind, Sem.run_pure, Result.andThen_ok, List.map_toArray, List.map_cons, List.map_nil, hx, hr]
end
theorem dig_key : Try.prog.keyTypeAt 5 27 = true := by kernel_rfl
theorem dig_guard : Try.prog.eqGuardType Try.prog.depth 27 = false := by kernel_rfl
theorem dig_formed {d : List UInt8} (h : d.length = 32) : Value.formed Try.prog 27 (.agg (u8s d).toArray) = true := by
  simp only [Value.formed, Try.underlying27, ty27.cellsOf]
  simp [u8s, h]
theorem dig_lits {d : List UInt8} (h : d.length = 32) : Try.prog.keyLits 4 27 (u8s d) = some (u8l d) := lits_u8 (d := 2) Try.underlying27 Try.underlying5 ty27 ty5 h
theorem u8l_iff {a b : List UInt8} : u8l a = u8l b ↔ a = b := ⟨u8l_inj, fun h => by rw [h]⟩
section
variable {f : Slots} {w : World} {d : Option Tmp} {ty : TypeId} {pos : String} {af : Array Edge} {x y : Operand} {T' : TypeId}
theorem run_eqDig {a b : List UInt8} (ha : a.length = 32) (hb : b.length = 32) (hx : ev f x = .agg (u8s a).toArray) (hy : ev f y = .agg (u8s b).toArray) :
    (execOp (ev f) ⟨d, .binOp .eql 27 x y T', ty, pos, af, none⟩).run Try.prog w = .ok (.value (.bool (decide (a = b)))) w :=
  run_eqlAgg u8l_iff dig_key (dig_formed ha) (dig_formed hb) dig_guard hx hy (dig_lits ha) (dig_lits hb)
end
def cutD (d : List UInt8) (k : Nat) : List UInt8 := d.take k ++ List.replicate (32 - k) 0
def zD : List UInt8 := List.replicate 32 0
theorem cutD_len {d : List UInt8} {k : Nat} (h : d.length = 32) (hk : k ≤ 32) : (cutD d k).length = 32 := by simp [cutD]; omega
theorem splice_cut {d : List UInt8} {k o : Nat} (h : d.length = 32) (hk : k ≤ 32) (ho : k = 32 ∨ o = k) : splice (u8s d) o (List.replicate (32 - k) [Value.int .u8 0]).flatten = u8s (cutD d k) := by
  rw [flat_rep]
  rcases ho with rfl | rfl
  · rw [Nat.sub_self, List.replicate_zero, splice_nil, cutD, List.take_of_length_le (by omega)]; simp
  · rw [splice, List.drop_of_length_le (by simp [u8s]; omega), List.append_nil, cutD, u8s, u8s, List.map_append, List.map_take, List.map_replicate]; rfl
theorem bld_dig (w : World) : (Instr.build 27 #[]).run Try.prog w = .ok (.agg (u8s zD).toArray) w := by kernel_rfl
theorem cut_bad {d : List UInt8} {k : Int} (hd : d.length = 32) (hk : k < 1 ∨ 32 < k) (w : World) : Calls Try.prog 44 #[.agg (u8s d).toArray, .int .i64 k] w (Ret0 (.tuple #[.agg (u8s zD).toArray, .int .i64 3]) w) := by
  have hs : Step [] [] w w := Step.refl w
  by_cases h1 : k < 1
  · refine calls (n := 16) Try.func44 rfl rfl rfl ?_
    repeat (first | refine CW.seq ?_ | refine CW.block ?_ | refine CW.skip ?_ | refine CW.label ?_ | refine CW.exit ?_ | refine CW.condT rfl ?_ | refine CW.condF rfl ?_)
    refine CW.reg ?_
    refine WL.box (cs := u8s d) rfl rfl rfl hs (fun b2 w hs => ?_)
    refine WL.alloc ty27 rfl hs (fun b4 w hs => ?_)
    refine WL.val rfl (run_assign) ?_
    refine WL.nil ?_
    repeat (first | refine CW.seq ?_ | refine CW.block ?_ | refine CW.skip ?_ | refine CW.label ?_ | refine CW.exit ?_ | refine CW.condT rfl ?_ | refine CW.condF rfl ?_)
    refine CW.reg ?_
    refine WL.val rfl (run_move) ?_
    refine WL.val rfl (run_bT (run_lss rfl rfl) (by exact h1)) ?_
    refine WL.val rfl (run_move) ?_
    first | (refine WL.yes rfl rfl rfl ?_; refine WL.val rfl (run_move) ?_) | refine WL.no rfl rfl rfl (.inl rfl) ?_ | refine WL.no rfl rfl rfl (.inr rfl) ?_
    first | (refine WL.yes rfl rfl rfl ?_; refine WL.val rfl (run_gtr rfl rfl) ?_) | refine WL.no rfl rfl rfl (.inl rfl) ?_ | refine WL.no rfl rfl rfl (.inr rfl) ?_
    first | refine WL.val rfl (run_pickT rfl) ?_ | refine WL.val rfl (run_pickF rfl) ?_
    refine WL.nil ?_
    repeat (first | refine CW.seq ?_ | refine CW.block ?_ | refine CW.skip ?_ | refine CW.label ?_ | refine CW.exit ?_)
    first | refine CW.condP rfl (fun h => ?_) (fun h => ?_) | refine CW.cond rfl (fun h => ?_) (fun h => ?_)
    · repeat (first | refine CW.seq ?_ | refine CW.block ?_ | refine CW.skip ?_ | refine CW.label ?_ | refine CW.exit ?_ | refine CW.condT rfl ?_ | refine CW.condF rfl ?_)
      refine CW.reg ?_
      refine WL.val rfl (run_build rfl (bld_dig _)) ?_
      first | refine WL.storeAll ty27 rfl rfl ((by rfl)) (Cells1.u8s _) hs (by first | rfl | assumption) (fun w hs => ?_) | refine WL.storeAll_1 ty27 rfl rfl ((by rfl)) (Cells1.u8s _) hs (by first | rfl | assumption) (fun w hs => ?_) | refine WL.storeAll_2 ty27 rfl rfl ((by rfl)) (Cells1.u8s _) hs (by first | rfl | assumption) (fun w hs => ?_) | refine WL.storeAll_3 ty27 rfl rfl ((by rfl)) (Cells1.u8s _) hs (by first | rfl | assumption) (fun w hs => ?_) | refine WL.storeAll_4 ty27 rfl rfl ((by rfl)) (Cells1.u8s _) hs (by first | rfl | assumption) (fun w hs => ?_) | refine WL.storeAll ty27 rfl rfl ((by rfl)) (Cells1.u8s _) hs (by first | rfl | assumption) (fun w hs => ?_)
      refine WL.val rfl (run_assign) ?_
      refine WL.nil ?_
      repeat (first | refine CW.seq ?_ | refine CW.block ?_ | refine CW.skip ?_ | refine CW.label ?_ | refine CW.exit ?_ | refine CW.condT rfl ?_ | refine CW.condF rfl ?_)
      refine CW.ret ?_
      first | refine fin_cellTmp rfl rfl (run_loadVarN ty27 (by first | rfl | assumption | (simp; done)) hs.a0) ?_ | refine fin_cellTmp rfl rfl (run_loadVarN ty27 (by first | rfl | assumption | (simp; done)) hs.a1) ?_ | refine fin_cellTmp rfl rfl (run_loadVarN ty27 (by first | rfl | assumption | (simp; done)) hs.a2) ?_ | refine fin_cellTmp rfl rfl (run_loadVarN ty27 (by first | rfl | assumption | (simp; done)) hs.a3) ?_ | refine fin_cellTmp rfl rfl (run_loadVarN ty27 (by first | rfl | assumption | (simp; done)) hs.a4) ?_ | refine fin_cellTmp rfl rfl (run_loadVarN ty27 (by first | rfl | assumption | (simp; done)) hs.a5) ?_
      exact ⟨rfl, hs.clear⟩
    · cases h
  · have h2 : 32 < k := hk.resolve_left h1
    refine calls (n := 16) Try.func44 rfl rfl rfl ?_
    repeat (first | refine CW.seq ?_ | refine CW.block ?_ | refine CW.skip ?_ | refine CW.label ?_ | refine CW.exit ?_ | refine CW.condT rfl ?_ | refine CW.condF rfl ?_)
    refine CW.reg ?_
    refine WL.box (cs := u8s d) rfl rfl rfl hs (fun b2 w hs => ?_)
    refine WL.alloc ty27 rfl hs (fun b4 w hs => ?_)
    refine WL.val rfl (run_assign) ?_
    refine WL.nil ?_
    repeat (first | refine CW.seq ?_ | refine CW.block ?_ | refine CW.skip ?_ | refine CW.label ?_ | refine CW.exit ?_ | refine CW.condT rfl ?_ | refine CW.condF rfl ?_)
    refine CW.reg ?_
    refine WL.val rfl (run_move) ?_
    refine WL.val rfl (run_bF (run_lss rfl rfl) (by exact h1)) ?_
    refine WL.val rfl (run_move) ?_
    first | (refine WL.yes rfl rfl rfl ?_; refine WL.val rfl (run_move) ?_) | refine WL.no rfl rfl rfl (.inl rfl) ?_ | refine WL.no rfl rfl rfl (.inr rfl) ?_
    refine WL.yes rfl rfl rfl ?_
    refine WL.val rfl (run_bT (run_gtr rfl rfl) (by exact h2)) ?_
    first | refine WL.val rfl (run_pickT rfl) ?_ | refine WL.val rfl (run_pickF rfl) ?_
    refine WL.nil ?_
    repeat (first | refine CW.seq ?_ | refine CW.block ?_ | refine CW.skip ?_ | refine CW.label ?_ | refine CW.exit ?_)
    first | refine CW.condP rfl (fun h => ?_) (fun h => ?_) | refine CW.cond rfl (fun h => ?_) (fun h => ?_)
    · repeat (first | refine CW.seq ?_ | refine CW.block ?_ | refine CW.skip ?_ | refine CW.label ?_ | refine CW.exit ?_ | refine CW.condT rfl ?_ | refine CW.condF rfl ?_)
      refine CW.reg ?_
      refine WL.val rfl (run_build rfl (bld_dig _)) ?_
      first | refine WL.storeAll ty27 rfl rfl ((by rfl)) (Cells1.u8s _) hs (by first | rfl | assumption) (fun w hs => ?_) | refine WL.storeAll_1 ty27 rfl rfl ((by rfl)) (Cells1.u8s _) hs (by first | rfl | assumption) (fun w hs => ?_) | refine WL.storeAll_2 ty27 rfl rfl ((by rfl)) (Cells1.u8s _) hs (by first | rfl | assumption) (fun w hs => ?_) | refine WL.storeAll_3 ty27 rfl rfl ((by rfl)) (Cells1.u8s _) hs (by first | rfl | assumption) (fun w hs => ?_) | refine WL.storeAll_4 ty27 rfl rfl ((by rfl)) (Cells1.u8s _) hs (by first | rfl | assumption) (fun w hs => ?_) | refine WL.storeAll ty27 rfl rfl ((by rfl)) (Cells1.u8s _) hs (by first | rfl | assumption) (fun w hs => ?_)
      refine WL.val rfl (run_assign) ?_
      refine WL.nil ?_
      repeat (first | refine CW.seq ?_ | refine CW.block ?_ | refine CW.skip ?_ | refine CW.label ?_ | refine CW.exit ?_ | refine CW.condT rfl ?_ | refine CW.condF rfl ?_)
      refine CW.ret ?_
      first | refine fin_cellTmp rfl rfl (run_loadVarN ty27 (by first | rfl | assumption | (simp; done)) hs.a0) ?_ | refine fin_cellTmp rfl rfl (run_loadVarN ty27 (by first | rfl | assumption | (simp; done)) hs.a1) ?_ | refine fin_cellTmp rfl rfl (run_loadVarN ty27 (by first | rfl | assumption | (simp; done)) hs.a2) ?_ | refine fin_cellTmp rfl rfl (run_loadVarN ty27 (by first | rfl | assumption | (simp; done)) hs.a3) ?_ | refine fin_cellTmp rfl rfl (run_loadVarN ty27 (by first | rfl | assumption | (simp; done)) hs.a4) ?_ | refine fin_cellTmp rfl rfl (run_loadVarN ty27 (by first | rfl | assumption | (simp; done)) hs.a5) ?_
      exact ⟨rfl, hs.clear⟩
    · cases h
theorem cut_ok {d : List UInt8} {k : Nat} (hd : d.length = 32) (hk1 : 1 ≤ k) (hk : k ≤ 32) (w : World) : Calls Try.prog 44 #[.agg (u8s d).toArray, .int .i64 k] w (Ret0 (.tuple #[.agg (u8s (cutD d k)).toArray, .int .i64 0]) w) := by
  have hs : Step [] [] w w := Step.refl w
  have hl : (u8s d).length = 32 := by rw [u8s, List.length_map, hd]
  have hl2 : (u8s (cutD d k)).length = 32 := by rw [u8s, List.length_map, cutD_len hd hk]
  refine calls (n := 16) Try.func44 rfl rfl rfl ?_
  repeat (first | refine CW.seq ?_ | refine CW.block ?_ | refine CW.skip ?_ | refine CW.label ?_ | refine CW.exit ?_ | refine CW.condT rfl ?_ | refine CW.condF rfl ?_)
  refine CW.reg ?_
  refine WL.box (cs := u8s d) rfl rfl rfl hs (fun b2 w hs => ?_)
  refine WL.alloc ty27 rfl hs (fun b4 w hs => ?_)
  refine WL.val rfl (run_assign) ?_
  refine WL.nil ?_
  repeat (first | refine CW.seq ?_ | refine CW.block ?_ | refine CW.skip ?_ | refine CW.label ?_ | refine CW.exit ?_ | refine CW.condT rfl ?_ | refine CW.condF rfl ?_)
  refine CW.reg ?_
  refine WL.val rfl (run_move) ?_
  refine WL.val rfl (run_bF (run_lss rfl rfl) (by omega)) ?_
  refine WL.val rfl (run_move) ?_
  first | (refine WL.yes rfl rfl rfl ?_; refine WL.val rfl (run_move) ?_) | refine WL.no rfl rfl rfl (.inl rfl) ?_ | refine WL.no rfl rfl rfl (.inr rfl) ?_
  refine WL.yes rfl rfl rfl ?_
  refine WL.val rfl (run_bF (run_gtr rfl rfl) (by omega)) ?_
  first | refine WL.val rfl (run_pickT rfl) ?_ | refine WL.val rfl (run_pickF rfl) ?_
  refine WL.nil ?_
  repeat (first | refine CW.seq ?_ | refine CW.block ?_ | refine CW.skip ?_ | refine CW.label ?_ | refine CW.exit ?_)
  first | refine CW.condP rfl (fun h => ?_) (fun h => ?_) | refine CW.cond rfl (fun h => ?_) (fun h => ?_)
  · cases h
  · obtain ⟨o, ho1, ho2, ho3⟩ : ∃ o, cutSl 1 b2 0 k 32 32 = .slice (some ⟨b2, o, none⟩) (32 - k) (32 - k) ∧ (k = 32 ∨ o = k) ∧ o ≤ k := by
      refine ⟨if 32 = k then 0 else 0 + k * 1, rfl, ?_, ?_⟩ <;> split <;> omega
    replace hs := hs.swap
    repeat (first | refine CW.seq ?_ | refine CW.block ?_ | refine CW.skip ?_ | refine CW.label ?_ | refine CW.exit ?_ | refine CW.condT rfl ?_ | refine CW.condF rfl ?_)
    refine CW.reg ?_
    refine WL.val rfl (run_move) ?_
    refine WL.val rfl (run_sliceArrE (lo := k) (hi := 32) (m := 32) Try.underlying27 ty5 rfl rfl rfl (by omega) (by omega) ho1) ?_
    first | refine WL.clear Try.underlying22 ty5 rfl rfl hs (by omega) (by omega) rfl (fun w hs => ?_) | refine WL.clearA Try.underlying22 ty5 rfl rfl hs (by omega) rfl (fun w hs => ?_)
    refine WL.nil ?_
    rw [splice_cut hd hk ho2] at hs
    repeat (first | refine CW.seq ?_ | refine CW.block ?_ | refine CW.skip ?_ | refine CW.label ?_ | refine CW.exit ?_ | refine CW.condT rfl ?_ | refine CW.condF rfl ?_)
    refine CW.reg ?_
    refine WL.val rfl (run_loadN ty27 rfl hl2 hs.a0) ?_
    first | refine WL.storeAll ty27 rfl rfl ((hl2)) (Cells1.u8s _) hs (by first | rfl | assumption) (fun w hs => ?_) | refine WL.storeAll_1 ty27 rfl rfl ((hl2)) (Cells1.u8s _) hs (by first | rfl | assumption) (fun w hs => ?_) | refine WL.storeAll_2 ty27 rfl rfl ((hl2)) (Cells1.u8s _) hs (by first | rfl | assumption) (fun w hs => ?_) | refine WL.storeAll_3 ty27 rfl rfl ((hl2)) (Cells1.u8s _) hs (by first | rfl | assumption) (fun w hs => ?_) | refine WL.storeAll_4 ty27 rfl rfl ((hl2)) (Cells1.u8s _) hs (by first | rfl | assumption) (fun w hs => ?_) | refine WL.storeAll ty27 rfl rfl ((hl2)) (Cells1.u8s _) hs (by first | rfl | assumption) (fun w hs => ?_)
    refine WL.val rfl (run_assign) ?_
    refine WL.nil ?_
    repeat (first | refine CW.seq ?_ | refine CW.block ?_ | refine CW.skip ?_ | refine CW.label ?_ | refine CW.exit ?_ | refine CW.condT rfl ?_ | refine CW.condF rfl ?_)
    refine CW.ret ?_
    first | refine fin_cellTmp rfl rfl (run_loadVarN ty27 (by first | rfl | assumption | (simp; done)) hs.a0) ?_ | refine fin_cellTmp rfl rfl (run_loadVarN ty27 (by first | rfl | assumption | (simp; done)) hs.a1) ?_ | refine fin_cellTmp rfl rfl (run_loadVarN ty27 (by first | rfl | assumption | (simp; done)) hs.a2) ?_ | refine fin_cellTmp rfl rfl (run_loadVarN ty27 (by first | rfl | assumption | (simp; done)) hs.a3) ?_ | refine fin_cellTmp rfl rfl (run_loadVarN ty27 (by first | rfl | assumption | (simp; done)) hs.a4) ?_ | refine fin_cellTmp rfl rfl (run_loadVarN ty27 (by first | rfl | assumption | (simp; done)) hs.a5) ?_
    exact ⟨rfl, hs.clear⟩
end Go.Gx
/-! Rsum1 -/
namespace Go.Gx
open Go.Proofs
set_option linter.unusedVariables false
set_option linter.unusedSimpArgs false
set_option maxRecDepth 100000

theorem turned_spec {a : Wd} {n : Nat} (h1 : 1 ≤ n) (h2 : n ≤ 31) (w : World) : Calls Try.prog 96 #[wv a, .int .i64 n] w (Ret0 (wv (rotr a n)) w) := by
  have hs : Step [] [] w w := Step.refl w
  have e : rotr a n = a >>> n ||| a <<< (32 - n) := by rw [rotr, BitVec.or_comm]
  rw [e]
  refine calls (n := 13) Try.func96 rfl rfl rfl ?_
  refine CW.seq ?_
  refine CW.reg ?_
  refine WL.val rfl (run_assign) ?_
  refine WL.nil ?_
  refine CW.seq ?_
  refine CW.quiet mixedP (by kernel_rfl) hs ?_
  refine QL.val rfl (fun w hs => run_move) ?_
  refine QL.val rfl (fun w hs => run_move) ?_
  refine QL.val rfl (fun w hs => run_shr32 (n := n) (by omega) rfl rfl) ?_
  refine QL.val rfl (fun w hs => run_move) ?_
  refine QL.val rfl (fun w hs => run_move) ?_
  refine QL.val rfl (fun w hs => run_sub (c := ((32 - n : Nat) : Int)) rfl rfl (by omega) (by omega)) ?_
  refine QL.val rfl (fun w hs => run_shl32 (n := 32 - n) (by omega) rfl rfl) ?_
  refine QL.val rfl (fun w hs => run_or32 rfl rfl) ?_
  refine QL.val rfl (fun w hs => run_assign) ?_
  refine QL.nil (fun w hs => ?_)
  refine CW.ret ?_
  refine fin_ret1 rfl ?_
  exact ⟨rfl, hs⟩
theorem round_spec {t : Nat} (ht : t < 64) (w : World) : Calls Try.prog 97 #[.int .i64 t] w (Ret0 (wv (kL.getD t 0)) w) := by
  have hs : Step [] [] w w := Step.refl w
  have hk : (wvs kL)[0 + t * 1]? = some (wv (kL.getD t 0)) := by rw [Nat.mul_one, Nat.zero_add]; exact wvs_get (by rw [kL_len]; exact ht)
  refine calls (n := 8) Try.func97 rfl rfl rfl ?_
  refine CW.seq ?_
  refine CW.reg ?_
  refine WL.val rfl (run_assign) ?_
  refine WL.nil ?_
  refine CW.seq ?_
  refine CW.reg ?_
  refine WL.val rfl (run_build rfl (bld_rounds _)) ?_
  refine WL.alloc ty145 rfl hs (fun b3 w hs => ?_)
  refine WL.storeAll ty145 rfl rfl ((wvs_kL)) (Cells1.wvs _) hs (by first | rfl | assumption) (fun w hs => ?_)
  refine WL.nil ?_
  refine CW.seq ?_
  refine CW.reg ?_
  refine WL.val rfl (run_move) ?_
  refine WL.val rfl (run_ixArrN Try.underlying145 ty124 rfl rfl (by omega)) ?_
  refine WL.val rfl (run_load1 ty124 rfl (hs.c0 hk)) ?_
  refine WL.val rfl (run_assign) ?_
  refine WL.nil ?_
  refine CW.ret ?_
  refine fin_ret1 rfl ?_
  exact ⟨rfl, hs.clear⟩
theorem wordB_eq (b : List UInt8) (t : Nat) : byW (b.getD (4 * t) 0) <<< 24 ||| byW (b.getD (4 * t + 1) 0) <<< 16 ||| byW (b.getD (4 * t + 2) 0) <<< 8 ||| byW (b.getD (4 * t + 3) 0) = wordB b t := rfl
theorem bld8 (a b c d e f g h : Wd) (w : World) : (Instr.build 125 (List.toArray [(0, wv a), (1, wv b), (2, wv c), (3, wv d), (4, wv e), (5, wv f), (6, wv g), (7, wv h)])).run Try.prog w = .ok (.agg (wvs (St8.mk a b c d e f g h).l).toArray) w := by kernel_rfl
theorem mixW_set0 {s r : St8} {i : Nat} (hi : i < 8) : (wvs (mixW s s r i)).set (0 + i * 1) (wv (s.l.getD i 0 + r.l.getD i 0)) = wvs (mixW s s r (i + 1)) := by
  have := mixW_set (s := s) (S := s) (r := r) (l := []) hi
  simpa using this
theorem mixW_get {s r : St8} {i : Nat} (hi : i < 8) : (wvs (mixW s s r i))[0 + i * 1]? = some (wv (s.l.getD i 0)) := by
  match i, hi with
  | 0, _ => rfl
  | 1, _ => rfl
  | 2, _ => rfl
  | 3, _ => rfl
  | 4, _ => rfl
  | 5, _ => rfl
  | 6, _ => rfl
  | 7, _ => rfl
theorem mixW_zero {s r : St8} : wvs (mixW s s r 0) = wvs s.l := rfl
theorem mixW_all {s r : St8} : wvs (mixW s s r 8) = wvs (stAdd s r).l := rfl
attribute [local irreducible] kL sched schedA schedM accW wordB wNext stRounds stBlock mixW

theorem refBlock_spec {s : St8} {y : List UInt8} {bx off c : Nat} (w0 : World) (hat : At w0 bx off (u8s y)) (hy : y.length = 64) :
    Calls Try.prog 77 #[.agg (wvs s.l).toArray, .slice (some ⟨bx, off, none⟩) 64 c] w0 (Ret0 (.agg (wvs (stBlock s y).l).toArray) w0) := by
  have hs : Step [] [] w0 w0 := Step.refl w0
  have hbyte : ∀ {j : Nat} {L : List (Nat × Obj)} {w : World}, j < 64 → Step [] L w0 w → w.cell? ⟨bx, off + j * 1, none⟩ = some (.int .u8 (y.getD j 0).toNat) := fun {j L w} hj h => by
    rw [Nat.mul_one]
    exact (hat.step h (by simp)).cell (u8s_get (by omega))
  refine calls (n := 188) Try.func77 rfl rfl rfl ?_
  refine CW.seq ?_
  refine CW.reg ?_
  refine WL.box (cs := wvs s.l) rfl rfl rfl hs (fun b2 w hs => ?_)
  refine WL.alloc ty125 rfl hs (fun b4 w hs => ?_)
  refine WL.nil ?_
  refine CW.seq ?_
  refine CW.reg ?_
  refine WL.alloc ty145 rfl hs (fun b5 w hs => ?_)
  refine WL.nil ?_
  rw [schedA_zero y] at hs
  refine CW.seq <| CW.seq ?_
  refine CW.reg ?_
  refine WL.val rfl (run_assign) ?_
  refine WL.nil ?_
  refine CW.block ?_
  refine CW.loop (fun m f w' => ∃ t, t ≤ 64 ∧ m = 64 - t ∧ Step [] [(b5, blk 145 (wvs (schedA y t))), (b4, blk 125 [Value.int .u32 0, .int .u32 0, .int .u32 0, .int .u32 0, .int .u32 0, .int .u32 0, .int .u32 0, .int .u32 0]), (b2, blk 125 (wvs s.l))] w0 w' ∧ Holds f [(1, .slice (some ⟨bx, off, none⟩) 64 c), (2, .pointer (some ⟨b2, 0, none⟩)), (4, .pointer (some ⟨b4, 0, none⟩)), (5, .pointer (some ⟨b5, 0, none⟩)), (6, .int .i64 (t : Nat))]) (m := 64) ?_ ?_
  · exact ⟨0, by omega, rfl, hs, rfl, rfl, rfl, rfl, rfl, trivial⟩
  · clear hs
    rintro m f w ⟨t, ht, rfl, hs, hf⟩
    have hobt := hf.chain
    obtain ⟨g, rfl⟩ := hobt
    refine CW.seq <| CW.seq ?_
    refine CW.reg ?_
    refine WL.val rfl (run_move) ?_
    refine WL.val rfl (run_lss rfl rfl) ?_
    refine WL.nil ?_
    refine CW.condP rfl (fun h => ?_) (fun h => ?_)
    · have hlt : t < 64 := by omega
      have hobt : ∃ l, schedA y t = l := ⟨_, rfl⟩
      obtain ⟨l, hl⟩ := hobt
      have hll : l.length = 64 := by rw [← hl]; exact schedA_len ht
      rw [hl] at hs
      have hwl : (wvs l).length = 64 := by rw [wvs_len, hll]
      repeat (first | refine CW.seq ?_ | refine CW.block ?_ | refine CW.skip ?_)
      refine CW.reg ?_
      refine WL.val rfl (run_move) ?_
      refine WL.val rfl (run_lss rfl rfl) ?_
      refine WL.nil ?_
      refine CW.condP rfl (fun h2 => ?_) (fun h2 => ?_)
      · have hlt2 : t < 16 := by omega
        have hset : (wvs l).set (0 + t * 1) (wv (byW (y.getD (4 * t) 0) <<< 24 ||| byW (y.getD (4 * t + 1) 0) <<< 16 ||| byW (y.getD (4 * t + 2) 0) <<< 8 ||| byW (y.getD (4 * t + 3) 0))) = wvs (schedA y (t + 1)) := by
          rw [wordB_eq, Nat.mul_one, Nat.zero_add, wvs_set, ← hl, schedA_set hlt, schedM_word hlt2]
        refine CW.seq ?_
        refine CW.quietT (l1 := [_, _, _, _, _, _, _, _, _, _, _, _, _, _, _, _, _, _, _, _, _, _, _, _, _, _, _, _, _, _, _, _, _, _, _]) (l2 := [_]) 35 rfl mixedP rfl (by kernel_rfl) hs ?_
        refine QL.val rfl (fun w hs => run_move) ?_
        refine QL.val rfl (fun w hs => run_move) ?_
        refine QL.val rfl (fun w hs => run_move) ?_
        refine QL.val rfl (fun w hs => run_mul (c := ((4 * t : Nat) : Int)) rfl rfl (by omega) (by omega)) ?_
        refine QL.val rfl (fun w hs => run_ixSlN Try.underlying22 ty5 rfl rfl (by omega)) ?_
        refine QL.val rfl (fun w hs => run_load1 ty5 rfl (hbyte (by omega) hs)) ?_
        refine QL.val rfl (fun w hs => run_to32 Try.underlying5 Try.underlying124 rfl) ?_
        refine QL.val rfl (fun w hs => run_shl32 (n := 24) (by decide) rfl rfl) ?_
        refine QL.val rfl (fun w hs => run_move) ?_
        refine QL.val rfl (fun w hs => run_move) ?_
        refine QL.val rfl (fun w hs => run_mul (c := ((4 * t : Nat) : Int)) rfl rfl (by omega) (by omega)) ?_
        refine QL.val rfl (fun w hs => run_add (c := ((4 * t + 1 : Nat) : Int)) rfl rfl (by omega) (by omega)) ?_
        refine QL.val rfl (fun w hs => run_ixSlN Try.underlying22 ty5 rfl rfl (by omega)) ?_
        refine QL.val rfl (fun w hs => run_load1 ty5 rfl (hbyte (by omega) hs)) ?_
        refine QL.val rfl (fun w hs => run_to32 Try.underlying5 Try.underlying124 rfl) ?_
        refine QL.val rfl (fun w hs => run_shl32 (n := 16) (by decide) rfl rfl) ?_
        refine QL.val rfl (fun w hs => run_or32 rfl rfl) ?_
        refine QL.val rfl (fun w hs => run_move) ?_
        refine QL.val rfl (fun w hs => run_move) ?_
        refine QL.val rfl (fun w hs => run_mul (c := ((4 * t : Nat) : Int)) rfl rfl (by omega) (by omega)) ?_
        refine QL.val rfl (fun w hs => run_add (c := ((4 * t + 2 : Nat) : Int)) rfl rfl (by omega) (by omega)) ?_
        refine QL.val rfl (fun w hs => run_ixSlN Try.underlying22 ty5 rfl rfl (by omega)) ?_
        refine QL.val rfl (fun w hs => run_load1 ty5 rfl (hbyte (by omega) hs)) ?_
        refine QL.val rfl (fun w hs => run_to32 Try.underlying5 Try.underlying124 rfl) ?_
        refine QL.val rfl (fun w hs => run_shl32 (n := 8) (by decide) rfl rfl) ?_
        refine QL.val rfl (fun w hs => run_or32 rfl rfl) ?_
        refine QL.val rfl (fun w hs => run_move) ?_
        refine QL.val rfl (fun w hs => run_move) ?_
        refine QL.val rfl (fun w hs => run_mul (c := ((4 * t : Nat) : Int)) rfl rfl (by omega) (by omega)) ?_
        refine QL.val rfl (fun w hs => run_add (c := ((4 * t + 3 : Nat) : Int)) rfl rfl (by omega) (by omega)) ?_
        refine QL.val rfl (fun w hs => run_ixSlN Try.underlying22 ty5 rfl rfl (by omega)) ?_
        refine QL.val rfl (fun w hs => run_load1 ty5 rfl (hbyte (by omega) hs)) ?_
        refine QL.val rfl (fun w hs => run_to32 Try.underlying5 Try.underlying124 rfl) ?_
        refine QL.val rfl (fun w hs => run_or32 rfl rfl) ?_
        refine QL.val rfl (fun w hs => run_ixArrN Try.underlying145 ty124 rfl rfl (by omega)) ?_
        refine QL.nil (fun w hs => ?_)
        refine WL.store1 ty124 rfl rfl (rfl) hs (by first | (simp; done) | omega | (simp only [List.length_append, List.length_replicate, List.length_cons, List.length_nil, List.length_set]; omega) | (simp [Ent.cells, u8s]; done) | exact Nat.le_of_ble_eq_true rfl) (fun w hs => ?_)
        refine WL.nil ?_
        replace hs := (congrArg (fun cs => Step [] [(b5, blk 145 cs), (b4, blk 125 [Value.int .u32 0, .int .u32 0, .int .u32 0, .int .u32 0, .int .u32 0, .int .u32 0, .int .u32 0, .int .u32 0]), (b2, blk 125 (wvs s.l))] w0 w) hset).mp hs
        refine CW.exit ?_
        refine CW.reg ?_
        refine WL.val rfl (run_move) ?_
        refine WL.val rfl (run_add (c := ((t + 1 : Nat) : Int)) rfl rfl (by omega) (by omega)) ?_
        refine WL.val rfl (run_assign) ?_
        refine WL.nil ?_
        refine (show _ ∧ _ from ⟨rfl, _, ?_, t + 1, by omega, rfl, hs, rfl, rfl, rfl, rfl, rfl, trivial⟩)
        omega
      · have ht1 : 16 ≤ t := by omega
        have hg : ∀ j, j ≤ t → (wvs l)[0 + (t - j) * 1]? = some (wv (l.getD (t - j) 0)) := fun j hj => by rw [Nat.mul_one, Nat.zero_add]; exact wvs_get (by omega)
        have hset : (wvs l).set (0 + t * 1) (wv (l.getD (t - 16) 0 + (rotr (l.getD (t - 15) 0) 7 ^^^ rotr (l.getD (t - 15) 0) 18 ^^^ l.getD (t - 15) 0 >>> 3) + l.getD (t - 7) 0 + (rotr (l.getD (t - 2) 0) 17 ^^^ rotr (l.getD (t - 2) 0) 19 ^^^ l.getD (t - 2) 0 >>> 10))) = wvs (schedA y (t + 1)) := by
          rw [wNext_eq, Nat.mul_one, Nat.zero_add, wvs_set, ← hl, schedA_set hlt, wNext_A ht1, schedM_next ht1]
        repeat (first | refine CW.seq ?_ | refine CW.skip ?_)
        refine CW.reg ?_
        refine WL.val rfl (run_move) ?_
        refine WL.val rfl (run_sub (c := ((t - 15 : Nat) : Int)) rfl rfl (by omega) (by omega)) ?_
        refine WL.val rfl (run_ixArrN Try.underlying145 ty124 rfl rfl (by omega)) ?_
        refine WL.val rfl (run_load1 ty124 rfl (hs.c0 (hg 15 (by omega)))) ?_
        refine WL.val rfl (run_assign) ?_
        refine WL.nil ?_
        refine CW.seq ?_
        refine CW.reg ?_
        refine WL.val rfl (run_move) ?_
        refine WL.val rfl (run_sub (c := ((t - 2 : Nat) : Int)) rfl rfl (by omega) (by omega)) ?_
        refine WL.val rfl (run_ixArrN Try.underlying145 ty124 rfl rfl (by omega)) ?_
        refine WL.val rfl (run_load1 ty124 rfl (hs.c0 (hg 2 (by omega)))) ?_
        refine WL.val rfl (run_assign) ?_
        refine WL.nil ?_
        refine CW.quietT (l1 := [_, _, _, _, _, _, _, _, _, _, _, _, _, _, _, _, _, _, _, _, _, _, _, _, _, _, _, _, _]) (l2 := [_]) 29 rfl mixedP rfl (by kernel_rfl) hs ?_
        refine QL.val rfl (fun w hs => run_move) ?_
        refine QL.val rfl (fun w hs => run_move) ?_
        refine QL.val rfl (fun w hs => run_sub (c := ((t - 16 : Nat) : Int)) rfl rfl (by omega) (by omega)) ?_
        refine QL.val rfl (fun w hs => run_ixArrN Try.underlying145 ty124 rfl rfl (by omega)) ?_
        refine QL.val rfl (fun w hs => run_load1 ty124 rfl (hs.c0 (hg 16 (by omega)))) ?_
        refine QL.val rfl (fun w hs => run_move) ?_
        refine QL.enter rfl (fun w => run_call en96 rfl rfl) (fun w hs => turned_spec (n := 7) (by decide) (by decide) _) ?_
        refine QL.val rfl (fun w hs => run_move) ?_
        refine QL.enter rfl (fun w => run_call en96 rfl rfl) (fun w hs => turned_spec (n := 18) (by decide) (by decide) _) ?_
        refine QL.val rfl (fun w hs => run_xor32 rfl rfl) ?_
        refine QL.val rfl (fun w hs => run_move) ?_
        refine QL.val rfl (fun w hs => run_shr32 (n := 3) (by decide) rfl rfl) ?_
        refine QL.val rfl (fun w hs => run_xor32 rfl rfl) ?_
        refine QL.val rfl (fun w hs => run_add32 rfl rfl) ?_
        refine QL.val rfl (fun w hs => run_move) ?_
        refine QL.val rfl (fun w hs => run_sub (c := ((t - 7 : Nat) : Int)) rfl rfl (by omega) (by omega)) ?_
        refine QL.val rfl (fun w hs => run_ixArrN Try.underlying145 ty124 rfl rfl (by omega)) ?_
        refine QL.val rfl (fun w hs => run_load1 ty124 rfl (hs.c0 (hg 7 (by omega)))) ?_
        refine QL.val rfl (fun w hs => run_add32 rfl rfl) ?_
        refine QL.val rfl (fun w hs => run_move) ?_
        refine QL.enter rfl (fun w => run_call en96 rfl rfl) (fun w hs => turned_spec (n := 17) (by decide) (by decide) _) ?_
        refine QL.val rfl (fun w hs => run_move) ?_
        refine QL.enter rfl (fun w => run_call en96 rfl rfl) (fun w hs => turned_spec (n := 19) (by decide) (by decide) _) ?_
        refine QL.val rfl (fun w hs => run_xor32 rfl rfl) ?_
        refine QL.val rfl (fun w hs => run_move) ?_
        refine QL.val rfl (fun w hs => run_shr32 (n := 10) (by decide) rfl rfl) ?_
        refine QL.val rfl (fun w hs => run_xor32 rfl rfl) ?_
        refine QL.val rfl (fun w hs => run_add32 rfl rfl) ?_
        refine QL.val rfl (fun w hs => run_ixArrN Try.underlying145 ty124 rfl rfl (by omega)) ?_
        refine QL.nil (fun w hs => ?_)
        refine WL.store1 ty124 rfl rfl (rfl) hs (by first | (simp; done) | omega | (simp only [List.length_append, List.length_replicate, List.length_cons, List.length_nil, List.length_set]; omega) | (simp [Ent.cells, u8s]; done) | exact Nat.le_of_ble_eq_true rfl) (fun w hs => ?_)
        refine WL.nil ?_
        replace hs := (congrArg (fun cs => Step [] [(b5, blk 145 cs), (b4, blk 125 [Value.int .u32 0, .int .u32 0, .int .u32 0, .int .u32 0, .int .u32 0, .int .u32 0, .int .u32 0, .int .u32 0]), (b2, blk 125 (wvs s.l))] w0 w) hset).mp hs
        refine CW.reg ?_
        refine WL.val rfl (run_move) ?_
        refine WL.val rfl (run_add (c := ((t + 1 : Nat) : Int)) rfl rfl (by omega) (by omega)) ?_
        refine WL.val rfl (run_assign) ?_
        refine WL.nil ?_
        refine (show _ ∧ _ from ⟨rfl, _, ?_, t + 1, by omega, rfl, hs, rfl, rfl, rfl, rfl, rfl, trivial⟩)
        omega
    · obtain rfl : t = 64 := by omega
      have hobt : ∃ W, sched y 64 = W := ⟨_, rfl⟩
      obtain ⟨W, hW⟩ := hobt
      have hWl : W.length = 64 := by rw [← hW]; exact sched_len _ _
      rw [schedA_all, hW] at hs
      rw [stBlock_eq, hW]
      repeat (first | refine CW.seq ?_ | refine CW.exit ?_)
      refine CW.reg ?_
      refine WL.val rfl (run_loadN ty125 rfl (by rfl) hs.a2) ?_
      refine WL.alloc ty125 rfl hs (fun b9 w hs => ?_)
      refine WL.storeAll ty125 rfl rfl ((by rfl)) (Cells1.wvs _) hs (by first | rfl | assumption) (fun w hs => ?_)
      refine WL.nil ?_
      refine CW.seq <| CW.seq ?_
      refine CW.reg ?_
      refine WL.val rfl (run_assign) ?_
      refine WL.nil ?_
      refine CW.block ?_
      refine CW.loop (fun m f w' => ∃ t, t ≤ 64 ∧ m = 64 - t ∧ Step [] [(b9, blk 125 (wvs (stRounds s W t).l)), (b5, blk 145 (wvs W)), (b4, blk 125 [Value.int .u32 0, .int .u32 0, .int .u32 0, .int .u32 0, .int .u32 0, .int .u32 0, .int .u32 0, .int .u32 0]), (b2, blk 125 (wvs s.l))] w0 w' ∧ Holds f [(2, .pointer (some ⟨b2, 0, none⟩)), (4, .pointer (some ⟨b4, 0, none⟩)), (5, .pointer (some ⟨b5, 0, none⟩)), (9, .pointer (some ⟨b9, 0, none⟩)), (10, .int .i64 (t : Nat))]) (m := 64) ?_ ?_
      · exact ⟨0, by omega, rfl, by rw [stRounds_zero]; exact hs, rfl, rfl, rfl, rfl, rfl, trivial⟩
      · clear hs
        rintro m f w ⟨t, ht, rfl, hs, hf⟩
        have hobt := hf.chain
        obtain ⟨g, rfl⟩ := hobt
        refine CW.seq <| CW.seq ?_
        refine CW.reg ?_
        refine WL.val rfl (run_move) ?_
        refine WL.val rfl (run_lss rfl rfl) ?_
        refine WL.nil ?_
        refine CW.condP rfl (fun h => ?_) (fun h => ?_)
        · have hlt : t < 64 := by omega
          have hobt : ∃ st, stRounds s W t = st := ⟨_, rfl⟩
          obtain ⟨st, hst⟩ := hobt
          rw [hst] at hs
          have hw : (wvs W)[0 + t * 1]? = some (wv (W.getD t 0)) := by rw [Nat.mul_one, Nat.zero_add]; exact wvs_get (by omega)
          have hset : wvs (St8.mk ((st.h + (rotr st.e 6 ^^^ rotr st.e 11 ^^^ rotr st.e 25) + (st.e &&& st.f ^^^ ~~~ st.e &&& st.g) + kL.getD t 0 + W.getD t 0) + ((rotr st.a 2 ^^^ rotr st.a 13 ^^^ rotr st.a 22) + (st.a &&& st.b ^^^ st.a &&& st.c ^^^ st.b &&& st.c))) st.a st.b st.c (st.d + (st.h + (rotr st.e 6 ^^^ rotr st.e 11 ^^^ rotr st.e 25) + (st.e &&& st.f ^^^ ~~~ st.e &&& st.g) + kL.getD t 0 + W.getD t 0)) st.e st.f st.g).l = wvs (stRounds s W (t + 1)).l := by
            rw [stRounds_succ, hst, stStep, stP, stQ]
          repeat (first | refine CW.seq ?_ | refine CW.block ?_ | refine CW.skip ?_)
          refine CW.reg ?_
          refine WL.val rfl (run_ixArrN (i := 0) Try.underlying125 ty124 rfl rfl (by omega)) ?_
          refine WL.val rfl (run_load1 ty124 rfl (hs.c0 (v := wv st.a) rfl)) ?_
          refine WL.val rfl (run_assign) ?_
          refine WL.nil ?_
          refine CW.seq ?_
          refine CW.reg ?_
          refine WL.val rfl (run_ixArrN (i := 4) Try.underlying125 ty124 rfl rfl (by omega)) ?_
          refine WL.val rfl (run_load1 ty124 rfl (hs.c0 (v := wv st.e) rfl)) ?_
          refine WL.val rfl (run_assign) ?_
          refine WL.nil ?_
          refine CW.seq ?_
          refine CW.quiet mixedP (by kernel_rfl) hs ?_
          refine QL.val rfl (fun w hs => run_ixArrN (i := 7) Try.underlying125 ty124 rfl rfl (by omega)) ?_
          refine QL.val rfl (fun w hs => run_load1 ty124 rfl (hs.c0 (v := wv st.h) rfl)) ?_
          refine QL.val rfl (fun w hs => run_move) ?_
          refine QL.enter rfl (fun w => run_call en96 rfl rfl) (fun w hs => turned_spec (n := 6) (by decide) (by decide) _) ?_
          refine QL.val rfl (fun w hs => run_move) ?_
          refine QL.enter rfl (fun w => run_call en96 rfl rfl) (fun w hs => turned_spec (n := 11) (by decide) (by decide) _) ?_
          refine QL.val rfl (fun w hs => run_xor32 rfl rfl) ?_
          refine QL.val rfl (fun w hs => run_move) ?_
          refine QL.enter rfl (fun w => run_call en96 rfl rfl) (fun w hs => turned_spec (n := 25) (by decide) (by decide) _) ?_
          refine QL.val rfl (fun w hs => run_xor32 rfl rfl) ?_
          refine QL.val rfl (fun w hs => run_add32 rfl rfl) ?_
          refine QL.val rfl (fun w hs => run_move) ?_
          refine QL.val rfl (fun w hs => run_ixArrN (i := 5) Try.underlying125 ty124 rfl rfl (by omega)) ?_
          refine QL.val rfl (fun w hs => run_load1 ty124 rfl (hs.c0 (v := wv st.f) rfl)) ?_
          refine QL.val rfl (fun w hs => run_and32 rfl rfl) ?_
          refine QL.val rfl (fun w hs => run_move) ?_
          refine QL.val rfl (fun w hs => run_not32 rfl) ?_
          refine QL.val rfl (fun w hs => run_ixArrN (i := 6) Try.underlying125 ty124 rfl rfl (by omega)) ?_
          refine QL.val rfl (fun w hs => run_load1 ty124 rfl (hs.c0 (v := wv st.g) rfl)) ?_
          refine QL.val rfl (fun w hs => run_and32 rfl rfl) ?_
          refine QL.val rfl (fun w hs => run_xor32 rfl rfl) ?_
          refine QL.val rfl (fun w hs => run_add32 rfl rfl) ?_
          refine QL.val rfl (fun w hs => run_move) ?_
          refine QL.enter rfl (fun w => run_call en97 rfl rfl) (fun w hs => round_spec hlt _) ?_
          refine QL.val rfl (fun w hs => run_add32 rfl rfl) ?_
          refine QL.val rfl (fun w hs => run_move) ?_
          refine QL.val rfl (fun w hs => run_ixArrN Try.underlying145 ty124 rfl rfl (by omega)) ?_
          refine QL.val rfl (fun w hs => run_load1 ty124 rfl (hs.c1 hw)) ?_
          refine QL.val rfl (fun w hs => run_add32 rfl rfl) ?_
          refine QL.val rfl (fun w hs => run_assign) ?_
          refine QL.nil (fun w hs => ?_)
          refine CW.seq ?_
          refine CW.quiet mixedP (by kernel_rfl) hs ?_
          refine QL.val rfl (fun w hs => run_move) ?_
          refine QL.enter rfl (fun w => run_call en96 rfl rfl) (fun w hs => turned_spec (n := 2) (by decide) (by decide) _) ?_
          refine QL.val rfl (fun w hs => run_move) ?_
          refine QL.enter rfl (fun w => run_call en96 rfl rfl) (fun w hs => turned_spec (n := 13) (by decide) (by decide) _) ?_
          refine QL.val rfl (fun w hs => run_xor32 rfl rfl) ?_
          refine QL.val rfl (fun w hs => run_move) ?_
          refine QL.enter rfl (fun w => run_call en96 rfl rfl) (fun w hs => turned_spec (n := 22) (by decide) (by decide) _) ?_
          refine QL.val rfl (fun w hs => run_xor32 rfl rfl) ?_
          refine QL.val rfl (fun w hs => run_move) ?_
          refine QL.val rfl (fun w hs => run_ixArrN (i := 1) Try.underlying125 ty124 rfl rfl (by omega)) ?_
          refine QL.val rfl (fun w hs => run_load1 ty124 rfl (hs.c0 (v := wv st.b) rfl)) ?_
          refine QL.val rfl (fun w hs => run_and32 rfl rfl) ?_
          refine QL.val rfl (fun w hs => run_move) ?_
          refine QL.val rfl (fun w hs => run_ixArrN (i := 2) Try.underlying125 ty124 rfl rfl (by omega)) ?_
          refine QL.val rfl (fun w hs => run_load1 ty124 rfl (hs.c0 (v := wv st.c) rfl)) ?_
          refine QL.val rfl (fun w hs => run_and32 rfl rfl) ?_
          refine QL.val rfl (fun w hs => run_xor32 rfl rfl) ?_
          refine QL.val rfl (fun w hs => run_ixArrN (i := 1) Try.underlying125 ty124 rfl rfl (by omega)) ?_
          refine QL.val rfl (fun w hs => run_load1 ty124 rfl (hs.c0 (v := wv st.b) rfl)) ?_
          refine QL.val rfl (fun w hs => run_ixArrN (i := 2) Try.underlying125 ty124 rfl rfl (by omega)) ?_
          refine QL.val rfl (fun w hs => run_load1 ty124 rfl (hs.c0 (v := wv st.c) rfl)) ?_
          refine QL.val rfl (fun w hs => run_and32 rfl rfl) ?_
          refine QL.val rfl (fun w hs => run_xor32 rfl rfl) ?_
          refine QL.val rfl (fun w hs => run_add32 rfl rfl) ?_
          refine QL.val rfl (fun w hs => run_assign) ?_
          refine QL.nil (fun w hs => ?_)
          refine CW.reg ?_
          refine WL.val rfl (run_move) ?_
          refine WL.val rfl (run_move) ?_
          refine WL.val rfl (run_add32 rfl rfl) ?_
          refine WL.val rfl (run_move) ?_
          refine WL.val rfl (run_ixArrN (i := 1) Try.underlying125 ty124 rfl rfl (by omega)) ?_
          refine WL.val rfl (run_load1 ty124 rfl (hs.c0 (v := wv st.b) rfl)) ?_
          refine WL.val rfl (run_ixArrN (i := 2) Try.underlying125 ty124 rfl rfl (by omega)) ?_
          refine WL.val rfl (run_load1 ty124 rfl (hs.c0 (v := wv st.c) rfl)) ?_
          refine WL.val rfl (run_ixArrN (i := 3) Try.underlying125 ty124 rfl rfl (by omega)) ?_
          refine WL.val rfl (run_load1 ty124 rfl (hs.c0 (v := wv st.d) rfl)) ?_
          refine WL.val rfl (run_move) ?_
          refine WL.val rfl (run_add32 rfl rfl) ?_
          refine WL.val rfl (run_move) ?_
          refine WL.val rfl (run_ixArrN (i := 5) Try.underlying125 ty124 rfl rfl (by omega)) ?_
          refine WL.val rfl (run_load1 ty124 rfl (hs.c0 (v := wv st.f) rfl)) ?_
          refine WL.val rfl (run_ixArrN (i := 6) Try.underlying125 ty124 rfl rfl (by omega)) ?_
          refine WL.val rfl (run_load1 ty124 rfl (hs.c0 (v := wv st.g) rfl)) ?_
          refine WL.val rfl (run_build rfl (bld8 ((st.h + (rotr st.e 6 ^^^ rotr st.e 11 ^^^ rotr st.e 25) + (st.e &&& st.f ^^^ ~~~ st.e &&& st.g) + kL.getD t 0 + W.getD t 0) + ((rotr st.a 2 ^^^ rotr st.a 13 ^^^ rotr st.a 22) + (st.a &&& st.b ^^^ st.a &&& st.c ^^^ st.b &&& st.c))) st.a st.b st.c (st.d + (st.h + (rotr st.e 6 ^^^ rotr st.e 11 ^^^ rotr st.e 25) + (st.e &&& st.f ^^^ ~~~ st.e &&& st.g) + kL.getD t 0 + W.getD t 0)) st.e st.f st.g _)) ?_
          refine WL.storeAll ty125 rfl rfl ((by rfl)) (Cells1.wvs _) hs (by first | rfl | assumption) (fun w hs => ?_)
          refine WL.nil ?_
          rw [hset] at hs
          refine CW.reg ?_
          refine WL.val rfl (run_move) ?_
          refine WL.val rfl (run_add (c := ((t + 1 : Nat) : Int)) rfl rfl (by omega) (by omega)) ?_
          refine WL.val rfl (run_assign) ?_
          refine WL.nil ?_
          refine (show _ ∧ _ from ⟨rfl, _, ?_, t + 1, by omega, rfl, hs, rfl, rfl, rfl, rfl, rfl, trivial⟩)
          omega
        · obtain rfl : t = 64 := by omega
          have hobt : ∃ r, stRounds s W 64 = r := ⟨_, rfl⟩
          obtain ⟨r, hR⟩ := hobt
          rw [hR] at hs ⊢
          replace hs : Step [] [(b2, blk 125 (wvs s.l)), (b9, blk 125 (wvs r.l)), (b4, blk 125 [Value.int .u32 0, .int .u32 0, .int .u32 0, .int .u32 0, .int .u32 0, .int .u32 0, .int .u32 0, .int .u32 0])] w0 w := (Step.front [_, _] (hs.front [_, _, _])).tail
          repeat (first | refine CW.seq ?_ | refine CW.exit ?_)
          refine CW.reg ?_
          refine WL.val rfl (run_assign) ?_
          refine WL.nil ?_
          refine CW.block ?_
          refine CW.loop (fun m f w' => ∃ i, i ≤ 8 ∧ m = 8 - i ∧ Step [] [(b2, blk 125 (wvs (mixW s s r i))), (b9, blk 125 (wvs r.l)), (b4, blk 125 [Value.int .u32 0, .int .u32 0, .int .u32 0, .int .u32 0, .int .u32 0, .int .u32 0, .int .u32 0, .int .u32 0])] w0 w' ∧ Holds f [(2, .pointer (some ⟨b2, 0, none⟩)), (4, .pointer (some ⟨b4, 0, none⟩)), (9, .pointer (some ⟨b9, 0, none⟩)), (15, .int .i64 (i : Nat))]) (m := 8) ?_ ?_
          · exact ⟨0, by omega, rfl, by rw [mixW_zero]; exact hs, rfl, rfl, rfl, rfl, trivial⟩
          · clear hs
            rintro m f w ⟨i, hi, rfl, hs, hf⟩
            have hobt := hf.chain
            obtain ⟨g, rfl⟩ := hobt
            refine CW.seq <| CW.seq ?_
            refine CW.reg ?_
            refine WL.val rfl (run_move) ?_
            refine WL.val rfl (run_lss rfl rfl) ?_
            refine WL.nil ?_
            refine CW.condP rfl (fun h => ?_) (fun h => ?_)
            · have hlt : i < 8 := by omega
              have hr1 : (wvs r.l)[0 + i * 1]? = some (wv (r.l.getD i 0)) := by rw [Nat.mul_one, Nat.zero_add]; exact St8_get hlt
              have hml := mixW_len (s := s) (S := s) (r := r) hi
              repeat (first | refine CW.seq ?_ | refine CW.block ?_ | refine CW.skip ?_)
              refine CW.quietT (l1 := [_, _, _, _, _, _, _, _, _]) (l2 := [_]) 9 rfl mixedP rfl (by kernel_rfl) hs ?_
              refine QL.val rfl (fun w hs => run_move) ?_
              refine QL.val rfl (fun w hs => run_move) ?_
              refine QL.val rfl (fun w hs => run_ixArrN Try.underlying125 ty124 rfl rfl (by omega)) ?_
              refine QL.val rfl (fun w hs => run_load1 ty124 rfl (hs.c0 (mixW_get hlt))) ?_
              refine QL.val rfl (fun w hs => run_move) ?_
              refine QL.val rfl (fun w hs => run_ixArrN Try.underlying125 ty124 rfl rfl (by omega)) ?_
              refine QL.val rfl (fun w hs => run_load1 ty124 rfl (hs.c1 hr1)) ?_
              refine QL.val rfl (fun w hs => run_add32 rfl rfl) ?_
              refine QL.val rfl (fun w hs => run_ixArrN Try.underlying125 ty124 rfl rfl (by omega)) ?_
              refine QL.nil (fun w hs => ?_)
              refine WL.store1 ty124 rfl rfl (rfl) hs (by first | (simp; done) | omega | (simp only [List.length_append, List.length_replicate, List.length_cons, List.length_nil, List.length_set]; omega) | (simp [Ent.cells, u8s]; done) | exact Nat.le_of_ble_eq_true rfl) (fun w hs => ?_)
              refine WL.nil ?_
              replace hs := (congrArg (fun cs => Step [] [(b2, blk 125 cs), (b9, blk 125 (wvs r.l)), (b4, blk 125 [Value.int .u32 0, .int .u32 0, .int .u32 0, .int .u32 0, .int .u32 0, .int .u32 0, .int .u32 0, .int .u32 0])] w0 w) (mixW_set0 hlt)).mp hs
              refine CW.reg ?_
              refine WL.val rfl (run_move) ?_
              refine WL.val rfl (run_add (c := ((i + 1 : Nat) : Int)) rfl rfl (by omega) (by omega)) ?_
              refine WL.val rfl (run_assign) ?_
              refine WL.nil ?_
              refine (show _ ∧ _ from ⟨rfl, _, ?_, i + 1, by omega, rfl, hs, rfl, rfl, rfl, rfl, trivial⟩)
              omega
            · obtain rfl : i = 8 := by omega
              rw [mixW_all] at hs
              repeat (first | refine CW.seq ?_ | refine CW.exit ?_)
              refine CW.reg ?_
              refine WL.val rfl (run_loadN ty125 rfl (by rfl) hs.a0) ?_
              refine WL.storeAll_2 ty125 rfl rfl ((by rfl)) (Cells1.wvs _) hs (by first | rfl | assumption) (fun w hs => ?_)
              refine WL.nil ?_
              refine CW.ret ?_
              refine fin_cell1 rfl rfl (run_loadVarN ty125 (by first | rfl | assumption | (simp; done)) hs.a2) ?_
              exact ⟨rfl, hs.clear⟩
end Go.Gx
/-! Rsum2 -/
namespace Go.Gx
open Go.Proofs
set_option linter.unusedVariables false
set_option linter.unusedSimpArgs false
set_option maxRecDepth 100000

section
variable {P : Program} {f : Slots} {w : World} {d : Option Tmp} {ty : TypeId} {pos : String} {af : Array Edge} {x y : Operand} {T T' E : TypeId} {k : IntKind}
theorem run_mulU {n m : Nat} (hx : ev f x = .int .u64 n) (hy : ev f y = .int .u64 m) : (execOp (ev f) ⟨d, .binOp .mul T x y T', ty, pos, af, none⟩).run P w = .ok (.value (.int .u64 ((n * m % 18446744073709551616 : Nat) : Int))) w := by
  rw [run_mulW hx hy]
  have e : IntKind.u64.wrap ((n : Int) * m) = ((n * m % 18446744073709551616 : Nat) : Int) := by
    unfold IntKind.wrap
    simp only [IntKind.bits, IntKind.signed, Bool.false_and, Bool.false_eq_true, if_false]
    have : (2 : Int) ^ 64 = ((18446744073709551616 : Nat) : Int) := by decide
    rw [this, Int.natCast_emod, Int.natCast_mul]
  rw [e]
end
theorem own_snoc {v : Value} {acc : List UInt8} {k : Nat} {c : UInt8} {L : List (Nat × Obj)} (h : OwnSl 5 1 v (k + 1) (u8s acc ++ [.int .u8 c.toNat]) L) : OwnSl 5 1 v (k + 1) (u8s (acc ++ [c])) L := by
  rw [show u8s (acc ++ [c]) = u8s acc ++ [.int .u8 c.toNat] by simp [u8s]]
  exact h
theorem lenB_snoc {n i : Nat} (h : i < 8) : (lenB n).take (i + 1) = (lenB n).take i ++ [UInt8.ofNat (n * 8 % 18446744073709551616 / 256 ^ (7 - i))] := by
  rw [← lenB_get h, List.take_add_one, List.getD_eq_getElem?_getD, List.getElem?_eq_getElem (by rw [lenB_len]; exact h)]
  rfl
theorem fillB_eq2 (x : List UInt8) : fillB x = x ++ padA x.length ++ (lenB x.length).take 8 := by
  rw [List.take_of_length_le (by rw [lenB_len]; omega), fillB, padA]; simp
attribute [local irreducible] lenB fillB

theorem filled_spec {v : Value} {x : List UInt8} (w0 : World) (hv : Sl w0 1 v x.length (u8s x)) (hsz : x.length < 1099511627776) :
    Calls Try.prog 76 #[v] w0 fun e w' => ∃ v' Lv, e = .returned v' ∧ OwnSl 5 1 v' (fillB x).length (u8s (fillB x)) Lv ∧ Step [] Lv w0 w' := by
  have hs : Step [] [] w0 w0 := Step.refl w0
  have hobt := Sl.form hv
  obtain ⟨av, cv, rfl⟩ := hobt
  have hobt : ∃ Z, (119 - x.length % 64) % 64 = Z := ⟨_, rfl⟩
  obtain ⟨Z, hZ⟩ := hobt
  refine calls (n := 37) Try.func76 rfl rfl rfl ?_
  repeat (first | refine CW.seq ?_ | refine CW.block ?_ | refine CW.skip ?_ | refine CW.label ?_ | refine CW.exit ?_ | refine CW.condT rfl ?_ | refine CW.condF rfl ?_)
  refine CW.reg ?_
  refine WL.val rfl (run_assign) ?_
  refine WL.nil ?_
  repeat (first | refine CW.seq ?_ | refine CW.block ?_ | refine CW.skip ?_ | refine CW.label ?_ | refine CW.exit ?_ | refine CW.condT rfl ?_ | refine CW.condF rfl ?_)
  refine CW.reg ?_
  refine WL.val rfl (run_assign) ?_
  refine WL.nil ?_
  repeat (first | refine CW.seq ?_ | refine CW.block ?_ | refine CW.skip ?_ | refine CW.label ?_ | refine CW.exit ?_ | refine CW.condT rfl ?_ | refine CW.condF rfl ?_)
  refine CW.reg ?_
  refine WL.val rfl (run_move) ?_
  refine WL.val rfl (run_move) ?_
  refine WL.append Try.underlying22 Try.underlying22 ty5 rfl (by decide) rfl rfl (OwnSl.nil _ _) (hs) (hv) (Cells1.u8s _) (by first | omega | (simp only [List.length_append, List.length_cons, List.length_nil]; omega)) rfl (fun v8 Lv8 w hv8 hs => ?_)
  refine WL.val rfl (run_assign) ?_
  refine WL.nil ?_
  replace hv8 : OwnSl 5 1 v8 x.length (u8s x) Lv8 := by simpa using hv8
  replace hs : Step [] Lv8 w0 w := by simpa using hs
  have hobt := hv8.form
  obtain ⟨a8, c8, rfl⟩ := hobt
  repeat (first | refine CW.seq ?_ | refine CW.block ?_ | refine CW.skip ?_ | refine CW.label ?_ | refine CW.exit ?_ | refine CW.condT rfl ?_ | refine CW.condF rfl ?_)
  refine CW.reg ?_
  refine WL.val rfl (run_move) ?_
  refine WL.buildSlice (cs := [.int .u8 128]) Try.underlying22 ty5 rfl (by decide) rfl (by rfl) rfl hs (fun b10 w hs => ?_)
  refine WL.append Try.underlying22 Try.underlying22 ty5 rfl (by decide) rfl rfl (hv8) (Step.append_comm (L1 := [_]) hs) (.own1 hs rfl) (Cells1.of_all rfl) (by first | omega | (simp only [List.length_append, List.length_cons, List.length_nil]; omega)) rfl (fun v11 Lv11 w hv11 hs => ?_)
  refine WL.val rfl (run_assign) ?_
  refine WL.nil ?_
  replace hv11 := own_snoc (c := 128) hv11
  replace hs : Step [] Lv11 w0 w := hs.dropR
  repeat (first | refine CW.seq ?_ | refine CW.block ?_ | refine CW.skip ?_ | refine CW.label ?_ | refine CW.exit ?_ | refine CW.condT rfl ?_ | refine CW.condF rfl ?_)
  refine CW.loop (fun m f w' => ∃ (j : Nat) (u : Value) (Lu : List (Nat × Obj)), j ≤ Z ∧ m = Z - j ∧ OwnSl 5 1 u (x.length + 1 + j) (u8s (x ++ 128 :: List.replicate j 0)) Lu ∧ Step [] Lu w0 w' ∧ Holds f [(0, .slice av x.length cv), (3, u)]) (m := Z) ?_ ?_
  · exact ⟨0, _, _, by omega, rfl, hv11, hs, rfl, rfl, trivial⟩
  · clear hs
    rintro m f w ⟨j, u, Lu, hj, rfl, hu, hs, hf⟩
    have hobt := hf.chain
    obtain ⟨g, rfl⟩ := hobt
    have hobt := hu.form
    obtain ⟨au, cu, rfl⟩ := hobt
    repeat (first | refine CW.seq ?_ | refine CW.block ?_ | refine CW.skip ?_ | refine CW.label ?_ | refine CW.exit ?_ | refine CW.condT rfl ?_ | refine CW.condF rfl ?_)
    refine CW.reg ?_
    refine WL.val rfl (run_move) ?_
    refine WL.val rfl (run_lenSl Try.underlying22 rfl) ?_
    refine WL.val rfl (run_remN (m := 64) rfl rfl (by decide)) ?_
    refine WL.val rfl (run_neq rfl rfl) ?_
    refine WL.nil ?_
    repeat (first | refine CW.seq ?_ | refine CW.block ?_ | refine CW.skip ?_ | refine CW.label ?_ | refine CW.exit ?_)
    first | refine CW.condP rfl (fun h => ?_) (fun h => ?_) | refine CW.cond rfl (fun h => ?_) (fun h => ?_)
    · have hlt : j < Z := by omega
      repeat (first | refine CW.seq ?_ | refine CW.block ?_ | refine CW.skip ?_ | refine CW.label ?_ | refine CW.exit ?_ | refine CW.condT rfl ?_ | refine CW.condF rfl ?_)
      refine CW.reg ?_
      refine WL.val rfl (run_move) ?_
      refine WL.buildSlice (cs := [.int .u8 0]) Try.underlying22 ty5 rfl (by decide) rfl (by rfl) rfl hs (fun b17 w hs => ?_)
      refine WL.append Try.underlying22 Try.underlying22 ty5 rfl (by decide) rfl rfl (hu) (Step.append_comm (L1 := [_]) hs) (.own1 hs rfl) (Cells1.of_all rfl) (by first | omega | (simp only [List.length_append, List.length_cons, List.length_nil]; omega)) rfl (fun v18 Lv18 w hv18 hs => ?_)
      refine WL.val rfl (run_assign) ?_
      refine WL.nil ?_
      have hu' := own_snoc (c := 0) hv18
      rw [show (x ++ 128 :: List.replicate j 0) ++ [(0 : UInt8)] = x ++ 128 :: List.replicate (j + 1) 0 by rw [List.append_assoc, List.cons_append, List.replicate_succ']] at hu'
      repeat (first | refine CW.seq ?_ | refine CW.block ?_ | refine CW.skip ?_ | refine CW.label ?_ | refine CW.exit ?_)
      refine (show _ ∧ _ from ⟨rfl, _, ?_, j + 1, _, _, by omega, rfl, hu', hs.dropR, rfl, rfl, trivial⟩)
      omega
    · obtain rfl : j = Z := by omega
      have hpl : x.length + 1 + j = (x ++ padA x.length).length := by rw [List.length_append, padA_len]; omega
      have hpe : x ++ 128 :: List.replicate j 0 = x ++ padA x.length := by rw [padA, hZ]
      have hobt : ∃ A, x ++ padA x.length = A := ⟨_, rfl⟩
      obtain ⟨A, hA⟩ := hobt
      rw [hpe, hA] at hu
      rw [hA] at hpl
      repeat (first | refine CW.seq ?_ | refine CW.block ?_ | refine CW.skip ?_ | refine CW.label ?_ | refine CW.exit ?_ | refine CW.condT rfl ?_ | refine CW.condF rfl ?_)
      refine CW.reg ?_
      refine WL.val rfl (run_move) ?_
      refine WL.val rfl (run_lenSl Try.underlying22 rfl) ?_
      first | refine WL.val rfl (run_convU64 Try.underlying3 Try.underlying130 rfl (by omega)) ?_ | refine WL.val rfl (run_convInt Try.underlying3 Try.underlying130 rfl) ?_
      refine WL.val rfl (run_mulU (n := x.length) (m := 8) rfl rfl) ?_
      refine WL.val rfl (run_assign) ?_
      refine WL.nil ?_
      repeat (first | refine CW.seq ?_ | refine CW.block ?_ | refine CW.skip ?_ | refine CW.label ?_ | refine CW.exit ?_ | refine CW.condT rfl ?_ | refine CW.condF rfl ?_)
      refine CW.reg ?_
      refine WL.val rfl (run_assign) ?_
      refine WL.nil ?_
      repeat (first | refine CW.seq ?_ | refine CW.block ?_ | refine CW.skip ?_ | refine CW.label ?_ | refine CW.exit ?_ | refine CW.condT rfl ?_ | refine CW.condF rfl ?_)
      refine CW.loop (fun m f w' => ∃ (i : Nat) (u : Value) (Lu : List (Nat × Obj)), i ≤ 8 ∧ m = 8 - i ∧ OwnSl 5 1 u (x.length + 1 + j + i) (u8s (A ++ (lenB x.length).take i)) Lu ∧ Step [] Lu w0 w' ∧ Holds f [(3, u), (4, .int .u64 ((x.length * 8 % 18446744073709551616 : Nat) : Int)), (5, .int .i64 (i : Nat))]) (m := 8) ?_ ?_
      · exact ⟨0, _, _, by omega, rfl, by rw [List.take_zero, List.append_nil]; exact hu, hs, rfl, rfl, rfl, trivial⟩
      · clear hs hu
        rintro m f w ⟨i, u, Lu, hi, rfl, hu, hs, hf⟩
        have hobt := hf.chain
        obtain ⟨g, rfl⟩ := hobt
        have hobt := hu.form
        obtain ⟨au, cu, rfl⟩ := hobt
        repeat (first | refine CW.seq ?_ | refine CW.block ?_ | refine CW.skip ?_ | refine CW.label ?_ | refine CW.exit ?_ | refine CW.condT rfl ?_ | refine CW.condF rfl ?_)
        refine CW.reg ?_
        refine WL.val rfl (run_move) ?_
        refine WL.val rfl (run_lss rfl rfl) ?_
        refine WL.nil ?_
        repeat (first | refine CW.seq ?_ | refine CW.block ?_ | refine CW.skip ?_ | refine CW.label ?_ | refine CW.exit ?_)
        first | refine CW.condP rfl (fun h => ?_) (fun h => ?_) | refine CW.cond rfl (fun h => ?_) (fun h => ?_)
        · have hlt : i < 8 := by omega
          repeat (first | refine CW.seq ?_ | refine CW.block ?_ | refine CW.skip ?_ | refine CW.label ?_ | refine CW.exit ?_ | refine CW.condT rfl ?_ | refine CW.condF rfl ?_)
          refine CW.reg ?_
          refine WL.val rfl (run_move) ?_
          refine WL.val rfl (run_move) ?_
          refine WL.val rfl (run_move) ?_
          refine WL.val rfl (run_sub (c := ((7 - i : Nat) : Int)) rfl rfl (by omega) (by omega)) ?_
          refine WL.val rfl (run_mul (c := ((8 * (7 - i) : Nat) : Int)) rfl rfl (by omega) (by omega)) ?_
          refine WL.val rfl (run_shrN (j := 7 - i) rfl rfl (by simp only [IntKind.bits]; omega)) ?_
          first | refine WL.val rfl (run_convU8 Try.underlying130 Try.underlying5 rfl) ?_ | refine WL.val rfl (run_convInt Try.underlying130 Try.underlying5 rfl) ?_
          refine WL.buildSlice (cs := [.int .u8 (UInt8.ofNat (x.length * 8 % 18446744073709551616 / 256 ^ (7 - i))).toNat]) Try.underlying22 ty5 rfl (by decide) rfl (by rfl) rfl hs (fun b34 w hs => ?_)
          refine WL.append Try.underlying22 Try.underlying22 ty5 rfl (by decide) rfl rfl (hu) (Step.append_comm (L1 := [_]) hs) (.own1 hs rfl) (Cells1.of_all rfl) (by first | omega | (simp only [List.length_append, List.length_cons, List.length_nil]; omega)) rfl (fun v35 Lv35 w hv35 hs => ?_)
          refine WL.val rfl (run_assign) ?_
          refine WL.nil ?_
          have hu' := own_snoc hv35
          rw [List.append_assoc, ← lenB_snoc hlt] at hu'
          repeat (first | refine CW.seq ?_ | refine CW.block ?_ | refine CW.skip ?_ | refine CW.label ?_ | refine CW.exit ?_ | refine CW.condT rfl ?_ | refine CW.condF rfl ?_)
          refine CW.reg ?_
          refine WL.val rfl (run_move) ?_
          refine WL.val rfl (run_add (c := ((i + 1 : Nat) : Int)) rfl rfl (by omega) (by omega)) ?_
          refine WL.val rfl (run_assign) ?_
          refine WL.nil ?_
          repeat (first | refine CW.seq ?_ | refine CW.block ?_ | refine CW.skip ?_ | refine CW.label ?_ | refine CW.exit ?_)
          refine (show _ ∧ _ from ⟨rfl, _, ?_, i + 1, _, _, by omega, rfl, hu', hs.dropR, rfl, rfl, rfl, trivial⟩)
          omega
        · obtain rfl : i = 8 := by omega
          repeat (first | refine CW.seq ?_ | refine CW.block ?_ | refine CW.skip ?_ | refine CW.label ?_ | refine CW.exit ?_ | refine CW.condT rfl ?_ | refine CW.condF rfl ?_)
          refine CW.reg ?_
          refine WL.val rfl (run_move) ?_
          refine WL.val rfl (run_assign) ?_
          refine WL.nil ?_
          repeat (first | refine CW.seq ?_ | refine CW.block ?_ | refine CW.skip ?_ | refine CW.label ?_ | refine CW.exit ?_ | refine CW.condT rfl ?_ | refine CW.condF rfl ?_)
          refine CW.ret ?_
          refine fin_ret1 rfl ?_
          rw [← hA, ← fillB_eq2] at hu
          have hfl : (fillB x).length = x.length + 1 + j + 8 := by rw [fillB_eq2, hA, List.length_append, ← hpl, List.length_take, lenB_len]; omega
          exact ⟨_, _, rfl, by rw [hfl]; exact hu, hs⟩
end Go.Gx
/-! Rsum3 -/
namespace Go.Gx
open Go.Proofs
set_option linter.unusedVariables false
set_option linter.unusedSimpArgs false
set_option maxRecDepth 100000

section
variable {P : Program} {f : Slots} {w : World} {d : Option Tmp} {ty : TypeId} {pos : String} {af : Array Edge} {x y : Operand} {T T' E : TypeId} {k : IntKind}
theorem run_quoN {n m : Nat} (hx : ev f x = .int .i64 n) (hy : ev f y = .int .i64 m) (hm : m ≠ 0) (hn : n < 9223372036854775808) : (execOp (ev f) ⟨d, .binOp .quo T x y T', ty, pos, af, none⟩).run P w = .ok (.value (.int .i64 ((n / m : Nat) : Int))) w := by
  rw [run_quoW hx hy (by omega)]
  have e : (n : Int).tdiv m = ((n / m : Nat) : Int) := by rw [Int.ofNat_tdiv]
  have h2 : n / m ≤ n := Nat.div_le_self n m
  have hobt : ∃ q, n / m = q := ⟨_, rfl⟩
  obtain ⟨q, hq⟩ := hobt
  rw [hq] at h2
  rw [e, hq, wrap_i64 (by omega)]
end
theorem fillB_len (x : List UInt8) : (fillB x).length = 64 * ((fillB x).length / 64) := by
  rw [← fillB_eq, List.length_append, bufL_len (by decide)]
  omega
theorem stBlocks_succ (l : List UInt8) (n : Nat) : stBlocks l (n + 1) = stBlock (stBlocks l n) ((l.drop (64 * n)).take 64) := rfl
theorem stBlocks_zero (l : List UInt8) : stBlocks l 0 = iv8 := rfl
theorem shaL_eq (x : List UInt8) : shaL x = digB (stBlocks (fillB x) ((fillB x).length / 64)) := rfl
theorem digB_at {s : St8} {i : Nat} (h : i < 32) : (digB s).getD i 0 = UInt8.ofNat ((s.l.getD (i / 4) 0).toNat / 256 ^ (3 - i % 4)) := by
  rw [← digB_get (by omega) (Nat.mod_lt i (by decide))]
  congr 1
  omega
theorem refDig_zero (G : List UInt8) : List.replicate 32 (Value.int .u8 0) = u8s (digL G 0) := rfl
attribute [local irreducible] stBlock stBlocks fillB digB digL shaL

theorem refOf_spec {v : Value} {x : List UInt8} (w0 : World) (hv : Sl w0 1 v x.length (u8s x)) (hsz : x.length < 1099511627776) :
    Calls Try.prog 59 #[v] w0 (Ret0 (.agg (u8s (shaL x)).toArray) w0) := by
  have hs : Step [] [] w0 w0 := Step.refl w0
  have hfl := fillB_len x
  have hfl2 : (fillB x).length ≤ x.length + 80 := by rw [← fillB_eq, List.length_append, bufL_len (by decide)]; omega
  have hfl3 : 0 < (fillB x).length := by rw [← fillB_eq, List.length_append, bufL_len (by decide)]; omega
  rw [shaL_eq]
  have hobt : ∃ F, fillB x = F := ⟨_, rfl⟩
  obtain ⟨F, hF⟩ := hobt
  refine calls (n := 41) Try.func59 rfl rfl rfl ?_
  repeat (first | refine CW.seq ?_ | refine CW.block ?_ | refine CW.skip ?_ | refine CW.label ?_ | refine CW.exit ?_ | refine CW.condT rfl ?_ | refine CW.condF rfl ?_)
  refine CW.reg ?_
  refine WL.alloc ty87 rfl hs (fun b2 w hs => ?_)
  refine WL.nil ?_
  repeat (first | refine CW.seq ?_ | refine CW.block ?_ | refine CW.skip ?_ | refine CW.label ?_ | refine CW.exit ?_ | refine CW.condT rfl ?_ | refine CW.condF rfl ?_)
  refine CW.reg ?_
  refine WL.val rfl (run_build rfl (bld_iv _)) ?_
  refine WL.alloc ty125 rfl hs (fun b3 w hs => ?_)
  first | refine WL.storeAll ty125 rfl rfl ((by rfl)) (Cells1.wvs _) hs (by first | rfl | assumption) (fun w hs => ?_) | refine WL.storeAll_1 ty125 rfl rfl ((by rfl)) (Cells1.wvs _) hs (by first | rfl | assumption) (fun w hs => ?_) | refine WL.storeAll_2 ty125 rfl rfl ((by rfl)) (Cells1.wvs _) hs (by first | rfl | assumption) (fun w hs => ?_) | refine WL.storeAll_3 ty125 rfl rfl ((by rfl)) (Cells1.wvs _) hs (by first | rfl | assumption) (fun w hs => ?_) | refine WL.storeAll_4 ty125 rfl rfl ((by rfl)) (Cells1.wvs _) hs (by first | rfl | assumption) (fun w hs => ?_) | refine WL.storeAll ty125 rfl rfl ((by rfl)) (Cells1.wvs _) hs (by first | rfl | assumption) (fun w hs => ?_)
  refine WL.nil ?_
  repeat (first | refine CW.seq ?_ | refine CW.block ?_ | refine CW.skip ?_ | refine CW.label ?_ | refine CW.exit ?_ | refine CW.condT rfl ?_ | refine CW.condF rfl ?_)
  refine CW.reg ?_
  refine WL.val rfl (run_move) ?_
  refine WL.enter rfl (run_call en76 rfl rfl) (filled_spec _ (hv.step0 hs) hsz) ?_
  rintro e w ⟨v', Lv, rfl, hu, hq⟩
  refine ⟨_, rfl, ?_⟩
  replace hs := Step.call0 hs hq
  refine WL.val rfl (run_assign) ?_
  refine WL.nil ?_
  rw [hF] at hfl hfl2 hfl3 hu ⊢
  have hobt : ∃ N, F.length / 64 = N := ⟨_, rfl⟩
  obtain ⟨N, hN⟩ := hobt
  rw [hN] at hfl ⊢
  have hobt := hu.some1 hfl3
  obtain ⟨b', c, more, rfl, rfl, hc⟩ := hobt
  have hcap : F.length ≤ c := by rw [List.length_append, u8s, List.length_map] at hc; omega
  have hat : ∀ {L : List (Nat × Obj)} {w : World} (i : Nat), Step [] ((b', blk 5 (u8s F ++ more)) :: L) w0 w → At w b' (64 * i) (u8s ((F.drop (64 * i)).take 64)) := fun {L w} i h => by
    have h1 := ((h.a0.left).drop (64 * i)).take 64
    rw [Nat.zero_add, u8s, ← List.map_drop, ← List.map_take] at h1
    exact h1
  replace hs : Step [] [(b', blk 5 (u8s F ++ more)), (b3, blk 125 (wvs iv8.l)), (b2, blk 87 (List.replicate 32 (Value.int .u8 0)))] w0 w := hs
  repeat (first | refine CW.seq ?_ | refine CW.block ?_ | refine CW.skip ?_ | refine CW.label ?_ | refine CW.exit ?_ | refine CW.condT rfl ?_ | refine CW.condF rfl ?_)
  refine CW.reg ?_
  refine WL.val rfl (run_assign) ?_
  refine WL.nil ?_
  repeat (first | refine CW.seq ?_ | refine CW.block ?_ | refine CW.skip ?_ | refine CW.label ?_ | refine CW.exit ?_ | refine CW.condT rfl ?_ | refine CW.condF rfl ?_)
  refine CW.loop (fun m f w' => ∃ i, i ≤ N ∧ m = N - i ∧ Step [] [(b', blk 5 (u8s F ++ more)), (b3, blk 125 (wvs (stBlocks F i).l)), (b2, blk 87 (List.replicate 32 (Value.int .u8 0)))] w0 w' ∧ Holds f [(2, .pointer (some ⟨b2, 0, none⟩)), (3, .pointer (some ⟨b3, 0, none⟩)), (4, .slice (some ⟨b', 0, none⟩) F.length c), (5, .int .i64 ((64 * i : Nat) : Int))]) (m := N) ?_ ?_
  · exact ⟨0, by omega, rfl, by rw [stBlocks_zero]; exact hs, rfl, rfl, rfl, rfl, trivial⟩
  · clear hs
    rintro m f w ⟨i, hi, rfl, hs, hf⟩
    have hobt := hf.chain
    obtain ⟨g, rfl⟩ := hobt
    repeat (first | refine CW.seq ?_ | refine CW.block ?_ | refine CW.skip ?_ | refine CW.label ?_ | refine CW.exit ?_ | refine CW.condT rfl ?_ | refine CW.condF rfl ?_)
    refine CW.reg ?_
    refine WL.val rfl (run_move) ?_
    refine WL.val rfl (run_move) ?_
    refine WL.val rfl (run_lenSl Try.underlying22 rfl) ?_
    refine WL.val rfl (run_lss rfl rfl) ?_
    refine WL.nil ?_
    repeat (first | refine CW.seq ?_ | refine CW.block ?_ | refine CW.skip ?_ | refine CW.label ?_ | refine CW.exit ?_)
    first | refine CW.condP rfl (fun h => ?_) (fun h => ?_) | refine CW.cond rfl (fun h => ?_) (fun h => ?_)
    · have hlt : i < N := by omega
      have hobt : ∃ st, stBlocks F i = st := ⟨_, rfl⟩
      obtain ⟨st, hst⟩ := hobt
      rw [hst] at hs
      have hyl : ((F.drop (64 * i)).take 64).length = 64 := by rw [List.length_take, List.length_drop]; omega
      have hcut : cutSl 1 b' 0 (64 * i) (64 * i + 64) c = .slice (some ⟨b', 64 * i, none⟩) 64 (c - 64 * i) := by
        rw [cutSl, if_neg (by omega), Nat.mul_one, Nat.zero_add, show 64 * i + 64 - 64 * i = 64 by omega]
      have hset : wvs (stBlock st ((F.drop (64 * i)).take 64)).l = wvs (stBlocks F (i + 1)).l := by rw [stBlocks_succ, hst]
      repeat (first | refine CW.seq ?_ | refine CW.block ?_ | refine CW.skip ?_ | refine CW.label ?_ | refine CW.exit ?_ | refine CW.condT rfl ?_ | refine CW.condF rfl ?_)
      refine CW.quietT (l1 := [_, _, _, _, _, _, _]) (l2 := [_]) 7 rfl mixedP rfl (by kernel_rfl) hs ?_
      refine QL.val rfl (fun w hs => run_loadN ty125 rfl (by rfl) hs.a1) ?_
      refine QL.val rfl (fun w hs => run_move) ?_
      refine QL.val rfl (fun w hs => run_move) ?_
      refine QL.val rfl (fun w hs => run_move) ?_
      refine QL.val rfl (fun w hs => run_add (c := ((64 * i + 64 : Nat) : Int)) rfl rfl (by omega) (by omega)) ?_
      refine QL.val rfl (fun w hs => run_sliceSlE (lo := 64 * i) (hi := 64 * i + 64) (m := c) Try.underlying22 ty5 rfl rfl rfl rfl (by simp) (by omega) (by omega) (by omega) hcut) ?_
      refine QL.enter rfl (fun w => run_call en77 rfl rfl) (fun w hs => refBlock_spec (s := st) _ (hat i hs) hyl) ?_
      refine QL.nil (fun w hs => ?_)
      first | refine WL.storeAll ty125 rfl rfl ((by rfl)) (Cells1.wvs _) hs (by first | rfl | assumption) (fun w hs => ?_) | refine WL.storeAll_1 ty125 rfl rfl ((by rfl)) (Cells1.wvs _) hs (by first | rfl | assumption) (fun w hs => ?_) | refine WL.storeAll_2 ty125 rfl rfl ((by rfl)) (Cells1.wvs _) hs (by first | rfl | assumption) (fun w hs => ?_) | refine WL.storeAll_3 ty125 rfl rfl ((by rfl)) (Cells1.wvs _) hs (by first | rfl | assumption) (fun w hs => ?_) | refine WL.storeAll_4 ty125 rfl rfl ((by rfl)) (Cells1.wvs _) hs (by first | rfl | assumption) (fun w hs => ?_) | refine WL.storeAll ty125 rfl rfl ((by rfl)) (Cells1.wvs _) hs (by first | rfl | assumption) (fun w hs => ?_)
      refine WL.nil ?_
      rw [hset] at hs
      repeat (first | refine CW.seq ?_ | refine CW.block ?_ | refine CW.skip ?_ | refine CW.label ?_ | refine CW.exit ?_ | refine CW.condT rfl ?_ | refine CW.condF rfl ?_)
      refine CW.reg ?_
      refine WL.val rfl (run_move) ?_
      refine WL.val rfl (run_add (c := ((64 * (i + 1) : Nat) : Int)) rfl rfl (by omega) (by omega)) ?_
      refine WL.val rfl (run_assign) ?_
      refine WL.nil ?_
      repeat (first | refine CW.seq ?_ | refine CW.block ?_ | refine CW.skip ?_ | refine CW.label ?_ | refine CW.exit ?_)
      refine (show _ ∧ _ from ⟨rfl, _, ?_, i + 1, by omega, rfl, hs, rfl, rfl, rfl, rfl, trivial⟩)
      omega
    · obtain rfl : i = N := by omega
      have hobt : ∃ S, stBlocks F i = S := ⟨_, rfl⟩
      obtain ⟨S, hS⟩ := hobt
      rw [hS] at hs ⊢
      have hobt : ∃ G, digB S = G := ⟨_, rfl⟩
      obtain ⟨G, hG⟩ := hobt
      have hGl : G.length = 32 := by rw [← hG]; exact digB_len S
      rw [hG]
      repeat (first | refine CW.seq ?_ | refine CW.block ?_ | refine CW.skip ?_ | refine CW.label ?_ | refine CW.exit ?_ | refine CW.condT rfl ?_ | refine CW.condF rfl ?_)
      refine CW.reg ?_
      refine WL.alloc ty87 rfl hs (fun b6 w hs => ?_)
      refine WL.nil ?_
      rw [refDig_zero G] at hs
      repeat (first | refine CW.seq ?_ | refine CW.block ?_ | refine CW.skip ?_ | refine CW.label ?_ | refine CW.exit ?_ | refine CW.condT rfl ?_ | refine CW.condF rfl ?_)
      refine CW.reg ?_
      refine WL.val rfl (run_assign) ?_
      refine WL.nil ?_
      replace hs : Step [] [(b6, blk 87 (u8s (digL G 0))), (b3, blk 125 (wvs S.l)), (b2, blk 87 (u8s (digL G 0)))] w0 w := (Step.front [_] hs).tail
      repeat (first | refine CW.seq ?_ | refine CW.block ?_ | refine CW.skip ?_ | refine CW.label ?_ | refine CW.exit ?_ | refine CW.condT rfl ?_ | refine CW.condF rfl ?_)
      refine CW.loop (fun m f w' => ∃ i, i ≤ 32 ∧ m = 32 - i ∧ Step [] [(b6, blk 87 (u8s (digL G i))), (b3, blk 125 (wvs S.l)), (b2, blk 87 (u8s (digL G 0)))] w0 w' ∧ Holds f [(2, .pointer (some ⟨b2, 0, none⟩)), (3, .pointer (some ⟨b3, 0, none⟩)), (6, .pointer (some ⟨b6, 0, none⟩)), (7, .int .i64 (i : Nat))]) (m := 32) ?_ ?_
      · exact ⟨0, by omega, rfl, hs, rfl, rfl, rfl, rfl, trivial⟩
      · clear hs
        rintro m f w ⟨i, hi, rfl, hs, hf⟩
        have hobt := hf.chain
        obtain ⟨g, rfl⟩ := hobt
        repeat (first | refine CW.seq ?_ | refine CW.block ?_ | refine CW.skip ?_ | refine CW.label ?_ | refine CW.exit ?_ | refine CW.condT rfl ?_ | refine CW.condF rfl ?_)
        refine CW.reg ?_
        refine WL.val rfl (run_move) ?_
        refine WL.val rfl (run_lss rfl rfl) ?_
        refine WL.nil ?_
        repeat (first | refine CW.seq ?_ | refine CW.block ?_ | refine CW.skip ?_ | refine CW.label ?_ | refine CW.exit ?_)
        first | refine CW.condP rfl (fun h => ?_) (fun h => ?_) | refine CW.cond rfl (fun h => ?_) (fun h => ?_)
        · have hlt : i < 32 := by omega
          have hS1 : (wvs S.l)[0 + (i / 4) * 1]? = some (wv (S.l.getD (i / 4) 0)) := by rw [Nat.mul_one, Nat.zero_add]; exact St8_get (by omega)
          have hset : (u8s (digL G i)).set (0 + i * 1) (.int .u8 (UInt8.ofNat ((S.l.getD (i / 4) 0).toNat / 256 ^ (3 - i % 4))).toNat) = u8s (digL G (i + 1)) := by
            rw [Nat.mul_one, Nat.zero_add, u8s_set, ← digB_at hlt, hG, digL_set hlt hGl]
          have hdl : (u8s (digL G i)).length = 32 := by rw [u8s, List.length_map, digL_len hi hGl]
          repeat (first | refine CW.seq ?_ | refine CW.block ?_ | refine CW.skip ?_ | refine CW.label ?_ | refine CW.exit ?_ | refine CW.condT rfl ?_ | refine CW.condF rfl ?_)
          refine CW.reg ?_
          refine WL.val rfl (run_move) ?_
          refine WL.val rfl (run_move) ?_
          refine WL.val rfl (run_quoN (m := 4) rfl rfl (by decide) (by omega)) ?_
          first | refine WL.val rfl (run_ixArrN Try.underlying125 ty124 rfl rfl (by omega)) ?_ | refine WL.val rfl (run_ixArr Try.underlying125 ty124 rfl rfl (by omega)) ?_
          refine WL.val rfl (run_load1 ty124 rfl (hs.c1 hS1)) ?_
          refine WL.val rfl (run_move) ?_
          refine WL.val rfl (run_remN (m := 4) rfl rfl (by decide)) ?_
          refine WL.val rfl (run_sub (c := ((3 - i % 4 : Nat) : Int)) rfl rfl (by omega) (by omega)) ?_
          refine WL.val rfl (run_mul (c := ((8 * (3 - i % 4) : Nat) : Int)) rfl rfl (by omega) (by omega)) ?_
          refine WL.val rfl (run_shrN (j := 3 - i % 4) rfl rfl (by simp only [IntKind.bits]; omega)) ?_
          refine WL.val rfl (run_convU8 Try.underlying124 Try.underlying5 rfl) ?_
          first | refine WL.val rfl (run_ixArrN Try.underlying87 ty5 rfl rfl (by omega)) ?_ | refine WL.val rfl (run_ixArr Try.underlying87 ty5 rfl rfl (by omega)) ?_
          first | refine WL.store1 ty5 rfl rfl (rfl) hs (by first | (simp; done) | omega | (simp only [List.length_append, List.length_replicate, List.length_cons, List.length_nil, List.length_set]; omega) | (simp [Ent.cells, u8s]; done) | exact Nat.le_of_ble_eq_true rfl) (fun w hs => ?_) | refine WL.store1_1 ty5 rfl rfl (rfl) hs (by first | (simp; done) | omega | (simp only [List.length_append, List.length_replicate, List.length_cons, List.length_nil, List.length_set]; omega) | (simp [Ent.cells, u8s]; done) | exact Nat.le_of_ble_eq_true rfl) (fun w hs => ?_) | refine WL.store1_2 ty5 rfl rfl (rfl) hs (by first | (simp; done) | omega | (simp only [List.length_append, List.length_replicate, List.length_cons, List.length_nil, List.length_set]; omega) | (simp [Ent.cells, u8s]; done) | exact Nat.le_of_ble_eq_true rfl) (fun w hs => ?_) | refine WL.store1_3 ty5 rfl rfl (rfl) hs (by first | (simp; done) | omega | (simp only [List.length_append, List.length_replicate, List.length_cons, List.length_nil, List.length_set]; omega) | (simp [Ent.cells, u8s]; done) | exact Nat.le_of_ble_eq_true rfl) (fun w hs => ?_) | refine WL.store1_4 ty5 rfl rfl (rfl) hs (by first | (simp; done) | omega | (simp only [List.length_append, List.length_replicate, List.length_cons, List.length_nil, List.length_set]; omega) | (simp [Ent.cells, u8s]; done) | exact Nat.le_of_ble_eq_true rfl) (fun w hs => ?_) | refine WL.store1 ty5 rfl rfl (rfl) hs (by first | (simp; done) | omega | (simp only [List.length_append, List.length_replicate, List.length_cons, List.length_nil, List.length_set]; omega) | (simp [Ent.cells, u8s]; done) | exact Nat.le_of_ble_eq_true rfl) (fun w hs => ?_)
          refine WL.nil ?_
          replace hs := (congrArg (fun cs => Step [] [(b6, blk 87 cs), (b3, blk 125 (wvs S.l)), (b2, blk 87 (u8s (digL G 0)))] w0 w) hset).mp hs
          repeat (first | refine CW.seq ?_ | refine CW.block ?_ | refine CW.skip ?_ | refine CW.label ?_ | refine CW.exit ?_ | refine CW.condT rfl ?_ | refine CW.condF rfl ?_)
          refine CW.reg ?_
          refine WL.val rfl (run_move) ?_
          refine WL.val rfl (run_add (c := ((i + 1 : Nat) : Int)) rfl rfl (by omega) (by omega)) ?_
          refine WL.val rfl (run_assign) ?_
          refine WL.nil ?_
          repeat (first | refine CW.seq ?_ | refine CW.block ?_ | refine CW.skip ?_ | refine CW.label ?_ | refine CW.exit ?_)
          refine (show _ ∧ _ from ⟨rfl, _, ?_, i + 1, by omega, rfl, hs, rfl, rfl, rfl, rfl, trivial⟩)
          omega
        · obtain rfl : i = 32 := by omega
          rw [digL_all hGl] at hs
          have hgl : (u8s G).length = 32 := by rw [u8s, List.length_map, hGl]
          have hgl0 : (u8s (digL G 0)).length = 32 := by rw [u8s, List.length_map, digL_len (by decide) hGl]
          repeat (first | refine CW.seq ?_ | refine CW.block ?_ | refine CW.skip ?_ | refine CW.label ?_ | refine CW.exit ?_ | refine CW.condT rfl ?_ | refine CW.condF rfl ?_)
          refine CW.reg ?_
          refine WL.val rfl (run_loadN ty87 rfl hgl hs.a0) ?_
          first | refine WL.storeAll ty87 rfl rfl ((hgl)) (Cells1.u8s _) hs (by first | rfl | assumption) (fun w hs => ?_) | refine WL.storeAll_1 ty87 rfl rfl ((hgl)) (Cells1.u8s _) hs (by first | rfl | assumption) (fun w hs => ?_) | refine WL.storeAll_2 ty87 rfl rfl ((hgl)) (Cells1.u8s _) hs (by first | rfl | assumption) (fun w hs => ?_) | refine WL.storeAll_3 ty87 rfl rfl ((hgl)) (Cells1.u8s _) hs (by first | rfl | assumption) (fun w hs => ?_) | refine WL.storeAll_4 ty87 rfl rfl ((hgl)) (Cells1.u8s _) hs (by first | rfl | assumption) (fun w hs => ?_) | refine WL.storeAll ty87 rfl rfl ((hgl)) (Cells1.u8s _) hs (by first | rfl | assumption) (fun w hs => ?_)
          refine WL.nil ?_
          repeat (first | refine CW.seq ?_ | refine CW.block ?_ | refine CW.skip ?_ | refine CW.label ?_ | refine CW.exit ?_ | refine CW.condT rfl ?_ | refine CW.condF rfl ?_)
          refine CW.ret ?_
          first | refine fin_cell1 rfl rfl (run_loadVarN ty87 (by first | rfl | assumption | (simp; done)) hs.a0) ?_ | refine fin_cell1 rfl rfl (run_loadVarN ty87 (by first | rfl | assumption | (simp; done)) hs.a1) ?_ | refine fin_cell1 rfl rfl (run_loadVarN ty87 (by first | rfl | assumption | (simp; done)) hs.a2) ?_ | refine fin_cell1 rfl rfl (run_loadVarN ty87 (by first | rfl | assumption | (simp; done)) hs.a3) ?_ | refine fin_cell1 rfl rfl (run_loadVarN ty87 (by first | rfl | assumption | (simp; done)) hs.a4) ?_ | refine fin_cell1 rfl rfl (run_loadVarN ty87 (by first | rfl | assumption | (simp; done)) hs.a5) ?_
          exact ⟨rfl, hs.clear⟩
end Go.Gx
/-! Fits -/
namespace Go.Gx
open Go.Proofs
set_option linter.unusedVariables false
set_option linter.unusedSimpArgs false
set_option maxRecDepth 100000

theorem rdig_key : Try.prog.keyTypeAt 5 87 = true := by kernel_rfl
theorem rdig_guard : Try.prog.eqGuardType Try.prog.depth 87 = false := by kernel_rfl
theorem rdig_formed {d : List UInt8} (h : d.length = 32) : Value.formed Try.prog 87 (.agg (u8s d).toArray) = true := by
  simp only [Value.formed, Try.underlying87, ty87.cellsOf]
  simp [u8s, h]
theorem rdig_lits {d : List UInt8} (h : d.length = 32) : Try.prog.keyLits 4 87 (u8s d) = some (u8l d) := lits_u8 (d := 2) Try.underlying87 Try.underlying5 ty87 ty5 h
section
variable {f : Slots} {w : World} {d : Option Tmp} {ty : TypeId} {pos : String} {af : Array Edge} {x y : Operand} {T' : TypeId}
theorem run_eqRdig {a b : List UInt8} (ha : a.length = 32) (hb : b.length = 32) (hx : ev f x = .agg (u8s a).toArray) (hy : ev f y = .agg (u8s b).toArray) :
    (execOp (ev f) ⟨d, .binOp .eql 87 x y T', ty, pos, af, none⟩).run Try.prog w = .ok (.value (.bool (decide (a = b)))) w :=
  run_eqlAgg u8l_iff rdig_key (rdig_formed ha) (rdig_formed hb) rdig_guard hx hy (rdig_lits ha) (rdig_lits hb)
end
def fitsL (d : List UInt8) (k : Int) : Bool := decide (1 ≤ k ∧ k ≤ 32 ∧ cutD d k.toNat = d)
theorem zD_len : zD.length = 32 := by simp [zD]
theorem fits_spec {d : List UInt8} {k : Int} (hd : d.length = 32) (w : World) : Calls Try.prog 41 #[.agg (u8s d).toArray, .int .i64 k] w (Ret0 (.bool (fitsL d k)) w) := by
  have hs : Step [] [] w w := Step.refl w
  have hl : (u8s d).length = 32 := by rw [u8s, List.length_map, hd]
  by_cases hk : 1 ≤ k ∧ k ≤ 32
  · have hobt : ∃ n : Nat, k = n := ⟨k.toNat, by omega⟩
    obtain ⟨n, rfl⟩ := hobt
    have hl2 : (u8s (cutD d n)).length = 32 := by rw [u8s, List.length_map, cutD_len hd (by omega)]
    have e : fitsL d n = decide (cutD d n = d) := by
      rw [fitsL, Int.toNat_natCast]
      exact decide_eq_decide.2 ⟨fun h => h.2.2, fun h => ⟨hk.1, hk.2, h⟩⟩
    rw [e]
    refine calls (n := 20) Try.func41 rfl rfl rfl ?_
    refine CW.seq ?_
    refine CW.reg ?_
    refine WL.box (cs := u8s d) rfl rfl rfl hs (fun b2 w hs => ?_)
    refine WL.val rfl (run_assign) ?_
    refine WL.nil ?_
    refine CW.seq ?_
    refine CW.reg ?_
    refine WL.val rfl (run_loadN ty27 rfl hl hs.a0) ?_
    refine WL.val rfl (run_move) ?_
    refine WL.enter rfl (run_call en44 rfl rfl) (cut_ok hd (by omega) (by omega) _) ?_
    rintro e w ⟨rfl, hq⟩
    refine ⟨_, rfl, ?_⟩
    replace hs := hs.callE hq
    refine WL.val rfl (run_move) ?_
    refine WL.val rfl (run_extract rfl rfl) ?_
    refine WL.val rfl (run_extract rfl rfl) ?_
    refine WL.alloc ty27 rfl hs (fun b5 w hs => ?_)
    refine WL.storeAll ty27 rfl rfl ((hl2)) (Cells1.u8s _) hs (by first | rfl | assumption) (fun w hs => ?_)
    refine WL.val rfl (run_assign) ?_
    refine WL.nil ?_
    refine CW.seq ?_
    refine CW.reg ?_
    refine WL.val rfl (run_move) ?_
    refine WL.val rfl (run_bT (run_eql rfl rfl) (by rfl)) ?_
    refine WL.val rfl (run_move) ?_
    refine WL.yes rfl rfl rfl ?_
    refine WL.val rfl (run_loadN ty27 rfl hl2 hs.a0) ?_
    refine WL.yes rfl rfl rfl ?_
    refine WL.val rfl (run_loadN ty27 rfl hl hs.a1) ?_
    refine WL.yes rfl rfl rfl ?_
    refine WL.val rfl (run_eqDig (cutD_len hd (by omega)) hd rfl rfl) ?_
    refine WL.val rfl (run_pickT rfl) ?_
    refine WL.val rfl (run_assign) ?_
    refine WL.nil ?_
    refine CW.ret ?_
    refine fin_ret1 rfl ?_
    exact ⟨rfl, hs.clear⟩
  · have e : fitsL d k = false := decide_eq_false (fun h => hk ⟨h.1, h.2.1⟩)
    have hl2 : (u8s zD).length = 32 := rfl
    rw [e]
    refine calls (n := 20) Try.func41 rfl rfl rfl ?_
    refine CW.seq ?_
    refine CW.reg ?_
    refine WL.box (cs := u8s d) rfl rfl rfl hs (fun b2 w hs => ?_)
    refine WL.val rfl (run_assign) ?_
    refine WL.nil ?_
    refine CW.seq ?_
    refine CW.reg ?_
    refine WL.val rfl (run_loadN ty27 rfl hl hs.a0) ?_
    refine WL.val rfl (run_move) ?_
    refine WL.enter rfl (run_call en44 rfl rfl) (cut_bad hd (by omega) _) ?_
    rintro e w ⟨rfl, hq⟩
    refine ⟨_, rfl, ?_⟩
    replace hs := hs.callE hq
    refine WL.val rfl (run_move) ?_
    refine WL.val rfl (run_extract rfl rfl) ?_
    refine WL.val rfl (run_extract rfl rfl) ?_
    refine WL.alloc ty27 rfl hs (fun b5 w hs => ?_)
    refine WL.storeAll ty27 rfl rfl ((hl2)) (Cells1.u8s _) hs (by first | rfl | assumption) (fun w hs => ?_)
    refine WL.val rfl (run_assign) ?_
    refine WL.nil ?_
    refine CW.seq ?_
    refine CW.reg ?_
    refine WL.val rfl (run_move) ?_
    refine WL.val rfl (run_bF (run_eql rfl rfl) (by decide)) ?_
    refine WL.val rfl (run_move) ?_
    refine WL.no rfl rfl rfl (.inl rfl) ?_
    refine WL.no rfl rfl rfl (.inl rfl) ?_
    refine WL.no rfl rfl rfl (.inl rfl) ?_
    refine WL.val rfl (run_pickF rfl) ?_
    refine WL.val rfl (run_assign) ?_
    refine WL.nil ?_
    refine CW.ret ?_
    refine fin_ret1 rfl ?_
    exact ⟨rfl, hs.clear⟩
theorem bld_rdig (w : World) : (Instr.build 87 #[]).run Try.prog w = .ok (.agg (u8s zD).toArray) w := by kernel_rfl
theorem refCut_bad {d : List UInt8} {k : Int} (hd : d.length = 32) (hk : k < 1 ∨ 32 < k) (w : World) : Calls Try.prog 58 #[.agg (u8s d).toArray, .int .i64 k] w (Ret0 (.tuple #[.agg (u8s zD).toArray, .int .i64 3]) w) := by
  have hs : Step [] [] w w := Step.refl w
  by_cases h1 : k < 1
  · refine calls (n := 22) Try.func58 rfl rfl rfl ?_
    refine CW.seq ?_
    refine CW.reg ?_
    refine WL.box (cs := u8s d) rfl rfl rfl hs (fun b2 w hs => ?_)
    refine WL.alloc ty87 rfl hs (fun b4 w hs => ?_)
    refine WL.val rfl (run_assign) ?_
    refine WL.nil ?_
    refine CW.seq <| CW.seq ?_
    refine CW.reg ?_
    refine WL.val rfl (run_move) ?_
    refine WL.val rfl (run_bT (run_lss rfl rfl) (by exact h1)) ?_
    refine WL.val rfl (run_move) ?_
    refine WL.no rfl rfl rfl (.inl rfl) ?_
    refine WL.no rfl rfl rfl (.inl rfl) ?_
    refine WL.val rfl (run_pickT rfl) ?_
    refine WL.nil ?_
    refine CW.cond rfl (fun h => ?_) (fun h => ?_)
    · refine CW.seq ?_
      refine CW.reg ?_
      refine WL.val rfl (run_build rfl (bld_rdig _)) ?_
      refine WL.storeAll ty87 rfl rfl ((by rfl)) (Cells1.u8s _) hs (by first | rfl | assumption) (fun w hs => ?_)
      refine WL.val rfl (run_assign) ?_
      refine WL.nil ?_
      refine CW.ret ?_
      refine fin_cellTmp rfl rfl (run_loadVarN ty87 (by first | rfl | assumption | (simp; done)) hs.a0) ?_
      exact ⟨rfl, hs.clear⟩
    · cases h
  · have h2 : 32 < k := hk.resolve_left h1
    refine calls (n := 22) Try.func58 rfl rfl rfl ?_
    refine CW.seq ?_
    refine CW.reg ?_
    refine WL.box (cs := u8s d) rfl rfl rfl hs (fun b2 w hs => ?_)
    refine WL.alloc ty87 rfl hs (fun b4 w hs => ?_)
    refine WL.val rfl (run_assign) ?_
    refine WL.nil ?_
    refine CW.seq <| CW.seq ?_
    refine CW.reg ?_
    refine WL.val rfl (run_move) ?_
    refine WL.val rfl (run_bF (run_lss rfl rfl) (by exact h1)) ?_
    refine WL.val rfl (run_move) ?_
    refine WL.yes rfl rfl rfl ?_; refine WL.val rfl (run_move) ?_
    refine WL.yes rfl rfl rfl ?_
    refine WL.val rfl (run_bT (run_gtr rfl rfl) (by exact h2)) ?_
    refine WL.val rfl (run_pickF rfl) ?_
    refine WL.nil ?_
    refine CW.cond rfl (fun h => ?_) (fun h => ?_)
    · refine CW.seq ?_
      refine CW.reg ?_
      refine WL.val rfl (run_build rfl (bld_rdig _)) ?_
      refine WL.storeAll ty87 rfl rfl ((by rfl)) (Cells1.u8s _) hs (by first | rfl | assumption) (fun w hs => ?_)
      refine WL.val rfl (run_assign) ?_
      refine WL.nil ?_
      refine CW.ret ?_
      refine fin_cellTmp rfl rfl (run_loadVarN ty87 (by first | rfl | assumption | (simp; done)) hs.a0) ?_
      exact ⟨rfl, hs.clear⟩
    · cases h
def cutM (d : List UInt8) (k i : Nat) : List UInt8 := d.take k ++ (List.replicate (i - k) 0 ++ d.drop i)
theorem cutM_zero (d : List UInt8) (k : Nat) : cutM d k k = d := by simp [cutM]
theorem cutM_set {d : List UInt8} {k i : Nat} (hk : k ≤ i) (hi : i < d.length) : (cutM d k i).set i 0 = cutM d k (i + 1) := by
  have h1 : (d.take k).length = k := by rw [List.length_take]; omega
  rw [cutM, List.set_append, h1, if_neg (by omega), List.set_append, List.length_replicate, if_neg (by omega), Nat.sub_self, List.drop_eq_getElem_cons hi, List.set_cons_zero, cutM, show i + 1 - k = (i - k) + 1 by omega, List.replicate_succ', List.append_assoc]
  rfl
theorem cutM_len {d : List UInt8} {k i : Nat} (hk : k ≤ i) (hi : i ≤ d.length) : (cutM d k i).length = d.length := by simp [cutM]; omega
theorem cutM_all {d : List UInt8} {k : Nat} (hd : d.length = 32) : cutM d k 32 = cutD d k := by rw [cutM, cutD, List.drop_of_length_le (by omega), List.append_nil]
theorem refCut_ok {d : List UInt8} {k : Nat} (hd : d.length = 32) (hk1 : 1 ≤ k) (hk : k ≤ 32) (w0 : World) : Calls Try.prog 58 #[.agg (u8s d).toArray, .int .i64 k] w0 (Ret0 (.tuple #[.agg (u8s (cutD d k)).toArray, .int .i64 0]) w0) := by
  have hs : Step [] [] w0 w0 := Step.refl w0
  have hl2 : (u8s (cutD d k)).length = 32 := by rw [u8s, List.length_map, cutD_len hd hk]
  refine calls (n := 22) Try.func58 rfl rfl rfl ?_
  refine CW.seq ?_
  refine CW.reg ?_
  refine WL.box (cs := u8s d) rfl rfl rfl hs (fun b2 w hs => ?_)
  refine WL.alloc ty87 rfl hs (fun b4 w hs => ?_)
  refine WL.val rfl (run_assign) ?_
  refine WL.nil ?_
  refine CW.seq <| CW.seq ?_
  refine CW.reg ?_
  refine WL.val rfl (run_move) ?_
  refine WL.val rfl (run_bF (run_lss rfl rfl) (by omega)) ?_
  refine WL.val rfl (run_move) ?_
  refine WL.yes rfl rfl rfl ?_; refine WL.val rfl (run_move) ?_
  refine WL.yes rfl rfl rfl ?_
  refine WL.val rfl (run_bF (run_gtr rfl rfl) (by omega)) ?_
  refine WL.val rfl (run_pickF rfl) ?_
  refine WL.nil ?_
  refine CW.cond rfl (fun h => ?_) (fun h => ?_)
  · cases h
  · repeat (first | refine CW.seq ?_ | refine CW.skip ?_)
    refine CW.reg ?_
    refine WL.val rfl (run_move) ?_
    refine WL.val rfl (run_assign) ?_
    refine WL.nil ?_
    refine CW.block ?_
    refine CW.loop (fun m f w' => ∃ i, k ≤ i ∧ i ≤ 32 ∧ m = 32 - i ∧ Step [] [(b4, blk 87 (List.replicate 32 (Value.int .u8 0))), (b2, blk 87 (u8s (cutM d k i)))] w0 w' ∧ Holds f [(2, .pointer (some ⟨b2, 0, none⟩)), (4, .pointer (some ⟨b4, 0, none⟩)), (6, .int .i64 (i : Nat))]) (m := 32 - k) ?_ ?_
    · exact ⟨k, Nat.le_refl _, hk, rfl, by rw [cutM_zero]; exact hs, rfl, rfl, rfl, trivial⟩
    · clear hs
      rintro m f w ⟨i, hi1, hi, rfl, hs, hf⟩
      have hobt := hf.chain
      obtain ⟨g, rfl⟩ := hobt
      refine CW.seq <| CW.seq ?_
      refine CW.reg ?_
      refine WL.val rfl (run_move) ?_
      refine WL.val rfl (run_lss rfl rfl) ?_
      refine WL.nil ?_
      refine CW.condP rfl (fun h => ?_) (fun h => ?_)
      · have hlt : i < 32 := by omega
        have hset : (u8s (cutM d k i)).set (0 + i * 1) (.int .u8 0) = u8s (cutM d k (i + 1)) := by
          rw [Nat.mul_one, Nat.zero_add, show (Value.int .u8 0) = .int .u8 (0 : UInt8).toNat from rfl, u8s_set, cutM_set hi1 (by omega)]
        have hml : (u8s (cutM d k i)).length = 32 := by rw [u8s, List.length_map, cutM_len hi1 (by omega), hd]
        repeat (first | refine CW.seq ?_ | refine CW.block ?_ | refine CW.skip ?_)
        refine CW.reg ?_
        refine WL.val rfl (run_move) ?_
        refine WL.val rfl (run_ixArrN Try.underlying87 ty5 rfl rfl (by omega)) ?_
        refine WL.store1_1 ty5 rfl rfl (rfl) hs (by first | (simp; done) | omega | (simp only [List.length_append, List.length_replicate, List.length_cons, List.length_nil, List.length_set]; omega) | (simp [Ent.cells, u8s]; done) | exact Nat.le_of_ble_eq_true rfl) (fun w hs => ?_)
        refine WL.nil ?_
        replace hs := (congrArg (fun cs => Step [] [(b4, blk 87 (List.replicate 32 (Value.int .u8 0))), (b2, blk 87 cs)] w0 w) hset).mp hs
        refine CW.reg ?_
        refine WL.val rfl (run_move) ?_
        refine WL.val rfl (run_add (c := ((i + 1 : Nat) : Int)) rfl rfl (by omega) (by omega)) ?_
        refine WL.val rfl (run_assign) ?_
        refine WL.nil ?_
        refine (show _ ∧ _ from ⟨rfl, _, ?_, i + 1, by omega, by omega, rfl, hs, rfl, rfl, rfl, trivial⟩)
        omega
      · obtain rfl : i = 32 := by omega
        rw [cutM_all hd] at hs
        repeat (first | refine CW.seq ?_ | refine CW.exit ?_)
        refine CW.reg ?_
        refine WL.val rfl (run_loadN ty87 rfl hl2 hs.a1) ?_
        refine WL.storeAll ty87 rfl rfl ((hl2)) (Cells1.u8s _) hs (by first | rfl | assumption) (fun w hs => ?_)
        refine WL.val rfl (run_assign) ?_
        refine WL.nil ?_
        refine CW.ret ?_
        refine fin_cellTmp rfl rfl (run_loadVarN ty87 (by first | rfl | assumption | (simp; done)) hs.a0) ?_
        exact ⟨rfl, hs.clear⟩
theorem refFits_spec {d : List UInt8} {k : Int} (hd : d.length = 32) (w : World) : Calls Try.prog 84 #[.agg (u8s d).toArray, .int .i64 k] w (Ret0 (.bool (fitsL d k)) w) := by
  have hs : Step [] [] w w := Step.refl w
  have hl : (u8s d).length = 32 := by rw [u8s, List.length_map, hd]
  by_cases hk : 1 ≤ k ∧ k ≤ 32
  · have hobt : ∃ n : Nat, k = n := ⟨k.toNat, by omega⟩
    obtain ⟨n, rfl⟩ := hobt
    have hl2 : (u8s (cutD d n)).length = 32 := by rw [u8s, List.length_map, cutD_len hd (by omega)]
    have e : fitsL d n = decide (cutD d n = d) := by
      rw [fitsL, Int.toNat_natCast]
      exact decide_eq_decide.2 ⟨fun h => h.2.2, fun h => ⟨hk.1, hk.2, h⟩⟩
    rw [e]
    refine calls (n := 20) Try.func84 rfl rfl rfl ?_
    refine CW.seq ?_
    refine CW.reg ?_
    refine WL.box (cs := u8s d) rfl rfl rfl hs (fun b2 w hs => ?_)
    refine WL.val rfl (run_assign) ?_
    refine WL.nil ?_
    refine CW.seq ?_
    refine CW.reg ?_
    refine WL.val rfl (run_loadN ty87 rfl hl hs.a0) ?_
    refine WL.val rfl (run_move) ?_
    refine WL.enter rfl (run_call en58 rfl rfl) (refCut_ok hd (by omega) (by omega) _) ?_
    rintro e w ⟨rfl, hq⟩
    refine ⟨_, rfl, ?_⟩
    replace hs := hs.callE hq
    refine WL.val rfl (run_move) ?_
    refine WL.val rfl (run_extract rfl rfl) ?_
    refine WL.val rfl (run_extract rfl rfl) ?_
    refine WL.alloc ty87 rfl hs (fun b5 w hs => ?_)
    refine WL.storeAll ty87 rfl rfl ((hl2)) (Cells1.u8s _) hs (by first | rfl | assumption) (fun w hs => ?_)
    refine WL.val rfl (run_assign) ?_
    refine WL.nil ?_
    refine CW.seq ?_
    refine CW.reg ?_
    refine WL.val rfl (run_move) ?_
    refine WL.val rfl (run_bT (run_eql rfl rfl) (by rfl)) ?_
    refine WL.val rfl (run_move) ?_
    refine WL.yes rfl rfl rfl ?_
    refine WL.val rfl (run_loadN ty87 rfl hl2 hs.a0) ?_
    refine WL.yes rfl rfl rfl ?_
    refine WL.val rfl (run_loadN ty87 rfl hl hs.a1) ?_
    refine WL.yes rfl rfl rfl ?_
    refine WL.val rfl (run_eqRdig (cutD_len hd (by omega)) hd rfl rfl) ?_
    refine WL.val rfl (run_pickT rfl) ?_
    refine WL.val rfl (run_assign) ?_
    refine WL.nil ?_
    refine CW.ret ?_
    refine fin_ret1 rfl ?_
    exact ⟨rfl, hs.clear⟩
  · have e : fitsL d k = false := decide_eq_false (fun h => hk ⟨h.1, h.2.1⟩)
    have hl2 : (u8s zD).length = 32 := rfl
    rw [e]
    refine calls (n := 20) Try.func84 rfl rfl rfl ?_
    refine CW.seq ?_
    refine CW.reg ?_
    refine WL.box (cs := u8s d) rfl rfl rfl hs (fun b2 w hs => ?_)
    refine WL.val rfl (run_assign) ?_
    refine WL.nil ?_
    refine CW.seq ?_
    refine CW.reg ?_
    refine WL.val rfl (run_loadN ty87 rfl hl hs.a0) ?_
    refine WL.val rfl (run_move) ?_
    refine WL.enter rfl (run_call en58 rfl rfl) (refCut_bad hd (by omega) _) ?_
    rintro e w ⟨rfl, hq⟩
    refine ⟨_, rfl, ?_⟩
    replace hs := hs.callE hq
    refine WL.val rfl (run_move) ?_
    refine WL.val rfl (run_extract rfl rfl) ?_
    refine WL.val rfl (run_extract rfl rfl) ?_
    refine WL.alloc ty87 rfl hs (fun b5 w hs => ?_)
    refine WL.storeAll ty87 rfl rfl ((hl2)) (Cells1.u8s _) hs (by first | rfl | assumption) (fun w hs => ?_)
    refine WL.val rfl (run_assign) ?_
    refine WL.nil ?_
    refine CW.seq ?_
    refine CW.reg ?_
    refine WL.val rfl (run_move) ?_
    refine WL.val rfl (run_bF (run_eql rfl rfl) (by decide)) ?_
    refine WL.val rfl (run_move) ?_
    refine WL.no rfl rfl rfl (.inl rfl) ?_
    refine WL.no rfl rfl rfl (.inl rfl) ?_
    refine WL.no rfl rfl rfl (.inl rfl) ?_
    refine WL.val rfl (run_pickF rfl) ?_
    refine WL.val rfl (run_assign) ?_
    refine WL.nil ?_
    refine CW.ret ?_
    refine fin_ret1 rfl ?_
    exact ⟨rfl, hs.clear⟩
def frontL (x : List UInt8) (k : Nat) : List UInt8 := cutD (shaL x) k
theorem refFront_spec {v : Value} {x : List UInt8} {k : Nat} (w0 : World) (hv : Sl w0 1 v x.length (u8s x)) (hsz : x.length < 1099511627776) (hk1 : 1 ≤ k) (hk : k ≤ 32) :
    Calls Try.prog 40 #[v, .int .i64 k] w0 (Ret0 (.agg (u8s (frontL x k)).toArray) w0) := by
  have hs : Step [] [] w0 w0 := Step.refl w0
  have hl2 : (u8s (cutD (shaL x) k)).length = 32 := by rw [u8s, List.length_map, cutD_len (shaL_len x) hk]
  refine calls (n := 15) Try.func40 rfl rfl rfl ?_
  refine CW.seq ?_
  refine CW.reg ?_
  refine WL.alloc ty87 rfl hs (fun b4 w hs => ?_)
  refine WL.nil ?_
  refine CW.seq ?_
  refine CW.reg ?_
  refine WL.val rfl (run_move) ?_
  refine WL.enter rfl (run_call en59 rfl rfl) (refOf_spec _ (hv.step0 hs) hsz) ?_
  rintro e w ⟨rfl, hq⟩
  refine ⟨_, rfl, ?_⟩
  replace hs := hs.callE hq
  refine WL.val rfl (run_move) ?_
  refine WL.enter rfl (run_call en58 rfl rfl) (refCut_ok (shaL_len x) hk1 hk _) ?_
  rintro e w ⟨rfl, hq⟩
  refine ⟨_, rfl, ?_⟩
  replace hs := hs.callE hq
  refine WL.val rfl (run_move) ?_
  refine WL.val rfl (run_extract rfl rfl) ?_
  refine WL.val rfl (run_extract rfl rfl) ?_
  refine WL.alloc ty87 rfl hs (fun b5 w hs => ?_)
  refine WL.storeAll ty87 rfl rfl ((hl2)) (Cells1.u8s _) hs (by first | rfl | assumption) (fun w hs => ?_)
  refine WL.val rfl (run_assign) ?_
  refine WL.nil ?_
  refine CW.seq ?_
  refine CW.reg ?_
  refine WL.val rfl (run_loadN ty87 rfl hl2 hs.a0) ?_
  refine WL.storeAll_1 ty87 rfl rfl ((hl2)) (Cells1.u8s _) hs (by first | rfl | assumption) (fun w hs => ?_)
  refine WL.nil ?_
  refine CW.ret ?_
  refine fin_cell1 rfl rfl (run_loadVarN ty87 (by first | rfl | assumption | (simp; done)) hs.a1) ?_
  exact ⟨rfl, hs.clear⟩
end Go.Gx
