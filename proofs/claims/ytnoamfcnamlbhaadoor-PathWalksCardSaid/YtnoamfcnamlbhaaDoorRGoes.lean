/- The document's table of rows. -/
import Derived.Test.YtnoamfcnamlbhaaDoorRWidth
namespace Go.Gx
open Go.Proofs Go.RowKit
set_option linter.unusedVariables false
set_option linter.unusedSimpArgs false
set_option maxRecDepth 100000

theorem refPieces_spec {s : List UInt8} (w0 : World) (hs1 : s.length < 4294967281) : Calls Tryd.prog 57 #[str s] w0 fun e w' => ∃ u Lu, e = .returned u ∧ OwnSl 9 1 u (piecesL s).length (strs (piecesL s)) Lu ∧ Step [] Lu w0 w' := by
  have hs : Step [] [] w0 w0 := Step.refl w0
  refine calls (n := 20) Tryd.func57 rfl rfl rfl ?_
  repeat (first | refine CW.seq ?_ | refine CW.block ?_ | refine CW.skip ?_ | refine CW.label ?_ | refine CW.exit ?_ | refine CW.condT rfl ?_ | refine CW.condF rfl ?_)
  refine CW.reg ?_
  refine WL.val rfl (run_assign) ?_
  refine WL.nil ?_
  repeat (first | refine CW.seq ?_ | refine CW.block ?_ | refine CW.skip ?_ | refine CW.label ?_ | refine CW.exit ?_ | refine CW.condT rfl ?_ | refine CW.condF rfl ?_)
  refine CW.reg ?_
  refine WL.val rfl (run_assign) ?_
  refine WL.nil ?_
  repeat (first | refine CW.seq ?_ | refine CW.block ?_ | refine CW.skip ?_ | refine CW.label ?_ | refine CW.exit ?_ | refine CW.condT rfl ?_ | refine CW.condF rfl ?_)
  refine CW.loop (fun m f w' => ∃ r Q u Lu, m = r.length ∧ Q.length + r.length ≤ s.length ∧ piecesL s = Q ++ piecesL r ∧ OwnSl 9 1 u Q.length (strs Q) Lu ∧ Step [] Lu w0 w' ∧ Holds f [(0, str r), (3, u)]) (m := s.length) ?_ ?_
  · exact ⟨s, [], _, [], rfl, by simp, rfl, .nil _ _, hs, rfl, rfl, trivial⟩
  · clear hs
    rintro m f w ⟨r, Q, u, Lu, rfl, hQ, hcut, hu, hs, hf⟩
    have hobt := hf.chain
    obtain ⟨g, rfl⟩ := hobt
    by_cases h0 : r = []
    · have e : piecesL s = Q := by rw [hcut, h0, piecesL_nil, List.append_nil]
      have hl0 : r.length = 0 := by rw [h0]; rfl
      rw [e]
      repeat (first | refine CW.seq ?_ | refine CW.block ?_ | refine CW.skip ?_ | refine CW.label ?_ | refine CW.exit ?_ | refine CW.condT rfl ?_ | refine CW.condF rfl ?_)
      refine CW.reg ?_
      refine WL.val rfl (run_move) ?_
      refine WL.val rfl (run_lenStr Tryd.underlying9 rfl) ?_
      refine WL.val rfl (run_bF (run_gtr rfl rfl) (by omega)) ?_
      refine WL.nil ?_
      repeat (first | refine CW.seq ?_ | refine CW.block ?_ | refine CW.skip ?_ | refine CW.label ?_ | refine CW.exit ?_ | refine CW.condT rfl ?_ | refine CW.condF rfl ?_)
      refine CW.reg ?_
      refine WL.val rfl (run_move) ?_
      refine WL.val rfl (run_assign) ?_
      refine WL.nil ?_
      repeat (first | refine CW.seq ?_ | refine CW.block ?_ | refine CW.skip ?_ | refine CW.label ?_ | refine CW.exit ?_ | refine CW.condT rfl ?_ | refine CW.condF rfl ?_)
      refine CW.ret ?_
      refine fin_ret1 rfl ?_
      exact ⟨u, Lu, rfl, hu, hs⟩
    · have hp := List.length_pos_iff.2 h0
      have hw1 := widthL_pos r
      have hw2 := widthL_le h0
      repeat (first | refine CW.seq ?_ | refine CW.block ?_ | refine CW.skip ?_ | refine CW.label ?_ | refine CW.exit ?_ | refine CW.condT rfl ?_ | refine CW.condF rfl ?_)
      refine CW.reg ?_
      refine WL.val rfl (run_move) ?_
      refine WL.val rfl (run_lenStr Tryd.underlying9 rfl) ?_
      refine WL.val rfl (run_bT (run_gtr rfl rfl) (by omega)) ?_
      refine WL.nil ?_
      repeat (first | refine CW.seq ?_ | refine CW.block ?_ | refine CW.skip ?_ | refine CW.label ?_ | refine CW.exit ?_ | refine CW.condT rfl ?_ | refine CW.condF rfl ?_)
      refine CW.reg ?_
      refine WL.val rfl (run_move) ?_
      refine WL.enter rfl (run_call en68 rfl rfl) (width_spec _ h0 (by omega)) ?_
      rintro e w ⟨rfl, hq⟩
      refine ⟨_, rfl, ?_⟩
      replace hs := hs.callE hq
      refine WL.val rfl (run_assign) ?_
      refine WL.nil ?_
      repeat (first | refine CW.seq ?_ | refine CW.block ?_ | refine CW.skip ?_ | refine CW.label ?_ | refine CW.exit ?_ | refine CW.condT rfl ?_ | refine CW.condF rfl ?_)
      refine CW.reg ?_
      refine WL.val rfl (run_move) ?_
      refine WL.val rfl (run_move) ?_
      refine WL.val rfl (run_move) ?_
      refine WL.val rfl (run_sliceStr (lo := 0) (hi := widthL r) Tryd.underlying9 rfl rfl rfl (Nat.zero_le _) hw2) ?_
      refine WL.buildSlice (cs := [str ((r.take (widthL r)).drop 0)]) Tryd.underlying34 ty9 rfl (by decide) rfl (filled_s _ _ rfl) rfl hs (fun b14 w hs => ?_)
      have hsl : Sl w 1 (.slice (some ⟨b14, 0, none⟩) 1 1) 1 [str ((r.take (widthL r)).drop 0)] := .own1 hs rfl
      refine WL.append Tryd.underlying34 Tryd.underlying34 ty9 rfl (by decide) rfl rfl (hu) ((Step.append_comm (L1 := [_]) hs)) (hsl) ((fun v hv => by rw [List.mem_singleton.1 hv]; rfl)) (by first | omega | (simp only [List.length_append, List.length_cons, List.length_nil]; omega)) rfl (fun v15 Lv15 w hv15 hs => ?_)
      refine WL.val rfl (run_assign) ?_
      refine WL.nil ?_
      have eP : strs Q ++ [str ((r.take (widthL r)).drop 0)] = strs (Q ++ [r.take (widthL r)]) := by simp [strs]
      rw [eP] at hv15
      repeat (first | refine CW.seq ?_ | refine CW.block ?_ | refine CW.skip ?_ | refine CW.label ?_ | refine CW.exit ?_ | refine CW.condT rfl ?_ | refine CW.condF rfl ?_)
      refine CW.reg ?_
      refine WL.val rfl (run_move) ?_
      refine WL.val rfl (run_move) ?_
      refine WL.val rfl (run_sliceStr (lo := widthL r) (hi := r.length) Tryd.underlying9 rfl rfl rfl hw2 (Nat.le_refl _)) ?_
      refine WL.val rfl (run_assign) ?_
      refine WL.nil ?_
      repeat (first | refine CW.seq ?_ | refine CW.block ?_ | refine CW.skip ?_ | refine CW.label ?_ | refine CW.exit ?_)
      refine (show _ ∧ _ from ⟨rfl, _, ?_, (r.take r.length).drop (widthL r), Q ++ [r.take (widthL r)], _, _, rfl, ?_, ?_, ?_, hs.dropR, rfl, rfl, trivial⟩)
      · rw [List.take_length, List.length_drop]; omega
      · rw [List.take_length, List.length_drop, List.length_append]; simp; omega
      · rw [List.take_length, hcut, piecesL_some h0, List.append_assoc]; rfl
      · rw [List.length_append]
        exact hv15

/-! The table. -/
def nextF (m : Bool) (o : List Bool) (at' : Nat → Bool) : Nat → Bool
  | 0 => m && at' 0
  | k + 1 => if m then at' (k + 1) || nextF m o at' k else at' k && o.getD k false
def dpI (ms : List Bool) (os : List (List Bool)) : Nat → Nat → Bool
  | 0 => fun k => decide (k = 0)
  | i + 1 => nextF (ms.getD i false) (os.getD i []) (dpI ms os i)
theorem dpI_law {any : List UInt8 → Bool} {of : List UInt8 → List UInt8 → Bool} (x y : List (List UInt8)) : ∀ i k, i ≤ x.length → k ≤ y.length → dpI (x.map any) (x.map fun p => y.map (of p)) i k = goesM any of (x.take i) (y.take k)
  | 0, 0, _, _ => by rw [List.take_zero, List.take_zero, goesM_nil]; rfl
  | 0, k + 1, _, hk => by
    rw [List.take_zero, List.take_succ_eq_append_getElem (by omega), dpI]
    cases h : List.take k y with
    | nil => rw [List.nil_append, goesM_nil_cons]; rfl
    | cons a l => rw [List.cons_append, goesM_nil_cons]; rfl
  | i + 1, 0, hi, hk => by
    have ih := dpI_law (any := any) (of := of) x y i 0 (by omega) (by omega)
    rw [List.take_zero] at ih ⊢
    have hg : (x.map any).getD i false = any x[i] := by simp [List.getD_eq_getElem?_getD, List.getElem?_eq_getElem (show i < x.length by omega)]
    rw [dpI, nextF, hg, List.take_succ_eq_append_getElem (by omega), ih]
    cases ha : any x[i] with
    | true => rw [goesM_snoc_any_nil ha, Bool.true_and]
    | false => rw [goesM_snoc_nil ha, Bool.false_and]
  | i + 1, k + 1, hi, hk => by
    have ih1 := dpI_law (any := any) (of := of) x y i (k + 1) (by omega) hk
    have ih2 := dpI_law (any := any) (of := of) x y i k (by omega) (by omega)
    have ih3 := dpI_law (any := any) (of := of) x y (i + 1) k hi (by omega)
    rw [dpI] at ih3 ⊢
    have hg : (x.map any).getD i false = any x[i] := by simp [List.getD_eq_getElem?_getD, List.getElem?_eq_getElem (show i < x.length by omega)]
    have ho : ((x.map fun p => y.map (of p)).getD i []).getD k false = of x[i] y[k] := by simp [List.getD_eq_getElem?_getD, List.getElem?_eq_getElem (show i < x.length by omega), List.getElem?_eq_getElem (show k < y.length by omega)]
    rw [nextF, ih1, ih2, ih3, hg, ho]
    rw [List.take_succ_eq_append_getElem (show i < x.length by omega), List.take_succ_eq_append_getElem (show k < y.length by omega)]
    cases ha : any x[i] with
    | true => rw [if_pos rfl, goesM_snoc_any ha]
    | false => rw [if_neg (by simp), goesM_snoc_one ha]

def bools (l : List Bool) : List Value := l.map .bool
theorem bools_get {l : List Bool} {k : Nat} (h : k < l.length) : (bools l)[k]? = some (.bool (l.getD k false)) := by
  simp [bools, List.getD_eq_getElem?_getD, List.getElem?_eq_getElem h]
def rowC (n : Nat) (g : Nat → Bool) : List Value := (List.range (n + 1)).map fun j => .bool (g j)
theorem rowC_len (n : Nat) (g : Nat → Bool) : (rowC n g).length = n + 1 := by simp [rowC]
theorem rowC_get {n j : Nat} (g : Nat → Bool) (h : j ≤ n) : (rowC n g)[j]? = some (.bool (g j)) := by
  simp only [rowC, List.getElem?_map, List.getElem?_range (show j < n + 1 by omega), Option.map_some]
theorem rowC_congr {n : Nat} {g h : Nat → Bool} (e : ∀ j, j ≤ n → g j = h j) : rowC n g = rowC n h := by
  unfold rowC
  refine List.map_congr_left fun j hj => ?_
  rw [e j (by rw [List.mem_range] at hj; omega)]
theorem rowC_set {n k : Nat} {g h : Nat → Bool} {v : Bool} (hk : k ≤ n) (e : ∀ j, j ≤ n → h j = if j = k then v else g j) : (rowC n g).set k (.bool v) = rowC n h := by
  apply List.ext_getElem?
  intro j
  by_cases hj : j ≤ n
  · rw [rowC_get h hj, e j hj, List.getElem?_set]
    by_cases hjk : k = j
    · rw [if_pos hjk, if_pos (by rw [rowC_len]; omega), if_pos hjk.symm]
    · rw [if_neg hjk, rowC_get g hj, if_neg (fun e => hjk e.symm)]
  · rw [List.getElem?_eq_none (by rw [List.length_set, rowC_len]; omega), List.getElem?_eq_none (by rw [rowC_len]; omega)]
theorem rowC_zero (n : Nat) : (List.replicate (n + 1) [Value.bool false]).flatten = rowC n fun _ => false := by
  simp only [rowC]
  rw [List.map_const', List.length_range]
  generalize n + 1 = m
  induction m with
  | zero => rfl
  | succ m ih => rw [List.replicate_succ, List.flatten_cons, ih]; rfl

/-- What the inner loop has filled up to k. -/
def partF (N : Nat → Bool) (k : Nat) : Nat → Bool := fun j => if j < k then N j else false
theorem partF_get {N : Nat → Bool} {k j : Nat} (h : j < k) : partF N k j = N j := if_pos h
theorem partF_set {n k : Nat} {N : Nat → Bool} {v : Bool} (hk : k ≤ n) (hv : v = N k) : (rowC n (partF N k)).set k (.bool v) = rowC n (partF N (k + 1)) := rowC_set hk fun j hj => by
  unfold partF
  by_cases h1 : j = k
  · rw [if_pos h1, if_pos (by omega), hv, h1]
  · rw [if_neg h1]
    by_cases h2 : j < k
    · rw [if_pos h2, if_pos (by omega)]
    · rw [if_neg h2, if_neg (by omega)]
theorem partF_set' {n k : Nat} {N : Nat → Bool} {v : Bool} (hk : k ≤ n) (hv : v = N k) : (rowC n (partF N k)).set (0 + k * 1) (.bool v) = rowC n (partF N (k + 1)) := by
  rw [Nat.zero_add, Nat.mul_one]
  exact partF_set hk hv

set_option maxHeartbeats 4000000 in
theorem refGoes_spec {bm bo n K : Nat} {ms : List Bool} {os : List (List Bool)} {bs : List Nat} (w0 : World) (hK : ms.length = K) (hn : n ≤ 4294967290) (hk1 : ms.length ≤ 4294967290) (hbs : bs.length = ms.length)
    (hm : At w0 bm 0 (bools ms)) (ho : At w0 bo 0 (bs.map fun b => .slice (some ⟨b, 0, none⟩) n n)) (hrow : ∀ i b, bs[i]? = some b → (os.getD i []).length = n ∧ At w0 b 0 (bools (os.getD i []))) :
    Calls Tryd.prog 43 #[.slice (some ⟨bm, 0, none⟩) K K, .slice (some ⟨bo, 0, none⟩) K K, .int .i64 n] w0 (Ret0 (.bool (dpI ms os K n)) w0) := by
  subst hK
  have hs : Step [] [] w0 w0 := Step.refl w0
  refine calls (n := 79) Tryd.func43 rfl rfl rfl ?_
  repeat (first | refine CW.seq ?_ | refine CW.block ?_ | refine CW.skip ?_ | refine CW.label ?_ | refine CW.exit ?_ | refine CW.condT rfl ?_ | refine CW.condF rfl ?_)
  refine CW.reg ?_
  refine WL.val rfl (run_assign) ?_
  refine WL.nil ?_
  repeat (first | refine CW.seq ?_ | refine CW.block ?_ | refine CW.skip ?_ | refine CW.label ?_ | refine CW.exit ?_ | refine CW.condT rfl ?_ | refine CW.condF rfl ?_)
  refine CW.reg ?_
  refine WL.val rfl (run_move) ?_
  refine WL.val rfl (run_add (c := ((n + 1 : Nat) : Int)) rfl rfl (by omega) (by omega)) ?_
  refine WL.makeSlice (k := n + 1) Tryd.underlying55 ty4 rfl (by omega) (by omega) rfl rfl rfl hs (fun b13 w hs => ?_)
  refine WL.val rfl (run_assign) ?_
  refine WL.nil ?_
  rw [rowC_zero] at hs
  have hl0 := rowC_len n (fun _ => false)
  repeat (first | refine CW.seq ?_ | refine CW.block ?_ | refine CW.skip ?_ | refine CW.label ?_ | refine CW.exit ?_ | refine CW.condT rfl ?_ | refine CW.condF rfl ?_)
  refine CW.reg ?_
  refine WL.val rfl (run_move) ?_
  refine WL.val rfl (run_ixSlN (i := 0) Tryd.underlying55 ty4 rfl rfl (by omega)) ?_
  first | refine WL.store1 ty4 rfl rfl (rfl) hs (by first | (simp; done) | omega | (simp only [List.length_append, List.length_replicate, List.length_cons, List.length_nil, List.length_set]; omega) | (simp [Ent.cells, u8s]; done) | exact Nat.le_of_ble_eq_true rfl) (fun w hs => ?_) | refine WL.store1_1 ty4 rfl rfl (rfl) hs (by first | (simp; done) | omega | (simp only [List.length_append, List.length_replicate, List.length_cons, List.length_nil, List.length_set]; omega) | (simp [Ent.cells, u8s]; done) | exact Nat.le_of_ble_eq_true rfl) (fun w hs => ?_) | refine WL.store1_2 ty4 rfl rfl (rfl) hs (by first | (simp; done) | omega | (simp only [List.length_append, List.length_replicate, List.length_cons, List.length_nil, List.length_set]; omega) | (simp [Ent.cells, u8s]; done) | exact Nat.le_of_ble_eq_true rfl) (fun w hs => ?_) | refine WL.store1_3 ty4 rfl rfl (rfl) hs (by first | (simp; done) | omega | (simp only [List.length_append, List.length_replicate, List.length_cons, List.length_nil, List.length_set]; omega) | (simp [Ent.cells, u8s]; done) | exact Nat.le_of_ble_eq_true rfl) (fun w hs => ?_) | refine WL.store1_4 ty4 rfl rfl (rfl) hs (by first | (simp; done) | omega | (simp only [List.length_append, List.length_replicate, List.length_cons, List.length_nil, List.length_set]; omega) | (simp [Ent.cells, u8s]; done) | exact Nat.le_of_ble_eq_true rfl) (fun w hs => ?_) | refine WL.store1 ty4 rfl rfl (rfl) hs (by first | (simp; done) | omega | (simp only [List.length_append, List.length_replicate, List.length_cons, List.length_nil, List.length_set]; omega) | (simp [Ent.cells, u8s]; done) | exact Nat.le_of_ble_eq_true rfl) (fun w hs => ?_)
  refine WL.nil ?_
  have h00 : (rowC n fun _ => false).set (0 + 0 * 1) (.bool true) = rowC n (dpI ms os 0) := rowC_set (Nat.zero_le _) fun j hj => by
    show decide (j = 0) = _
    by_cases h : j = 0
    · rw [if_pos (by omega), decide_eq_true h]
    · rw [if_neg (by omega), decide_eq_false h]
  replace hs := (congrArg (fun cs => Step [] [(b13, blk 4 cs)] w0 w) h00).mp hs
  repeat (first | refine CW.seq ?_ | refine CW.block ?_ | refine CW.skip ?_ | refine CW.label ?_ | refine CW.exit ?_ | refine CW.condT rfl ?_ | refine CW.condF rfl ?_)
  refine CW.reg ?_
  refine WL.val rfl (run_assign) ?_
  refine WL.nil ?_
  repeat (first | refine CW.seq ?_ | refine CW.block ?_ | refine CW.skip ?_ | refine CW.label ?_ | refine CW.exit ?_ | refine CW.condT rfl ?_ | refine CW.condF rfl ?_)
  refine CW.loop (fun m f w' => ∃ i bA, i ≤ ms.length ∧ m = ms.length - i ∧ Step [] [(bA, blk 4 (rowC n (dpI ms os i)))] w0 w' ∧ Holds f [(0, .slice (some ⟨bm, 0, none⟩) ms.length ms.length), (1, .slice (some ⟨bo, 0, none⟩) ms.length ms.length), (2, .int .i64 n), (7, .slice (some ⟨bA, 0, none⟩) (n + 1) (n + 1)), (8, .int .i64 i)]) (m := ms.length) ?_ ?_
  · exact ⟨0, b13, Nat.zero_le _, rfl, hs, rfl, rfl, rfl, rfl, rfl, trivial⟩
  · clear hs
    rintro m f w ⟨i, bA, hi, rfl, hs, hf⟩
    have hobt := hf.chain
    obtain ⟨g, rfl⟩ := hobt
    by_cases hlt : i < ms.length
    · have hobt : ∃ N, dpI ms os (i + 1) = N := ⟨_, rfl⟩
      obtain ⟨N, hN⟩ := hobt
      have hobt : ∃ A, dpI ms os i = A := ⟨_, rfl⟩
      obtain ⟨A, hA⟩ := hobt
      have hobt : ∃ mi, ms.getD i false = mi := ⟨_, rfl⟩
      obtain ⟨mi, hmi⟩ := hobt
      have hobt : ∃ oi, os.getD i [] = oi := ⟨_, rfl⟩
      obtain ⟨oi, hoi⟩ := hobt
      have hNN : N = nextF mi oi A := by rw [← hN, ← hA, ← hmi, ← hoi]; rfl
      rw [hA] at hs
      repeat (first | refine CW.seq ?_ | refine CW.block ?_ | refine CW.skip ?_ | refine CW.label ?_ | refine CW.exit ?_ | refine CW.condT rfl ?_ | refine CW.condF rfl ?_)
      refine CW.reg ?_
      refine WL.val rfl (run_move) ?_
      refine WL.val rfl (run_move) ?_
      refine WL.val rfl (run_lenSl Tryd.underlying55 rfl) ?_
      refine WL.val rfl (run_bT (run_lss rfl rfl) (by omega)) ?_
      refine WL.nil ?_
      repeat (first | refine CW.seq ?_ | refine CW.block ?_ | refine CW.skip ?_ | refine CW.label ?_ | refine CW.exit ?_ | refine CW.condT rfl ?_ | refine CW.condF rfl ?_)
      refine CW.reg ?_
      refine WL.val rfl (run_move) ?_
      refine WL.val rfl (run_add (c := ((n + 1 : Nat) : Int)) rfl rfl (by omega) (by omega)) ?_
      refine WL.makeSlice (k := n + 1) Tryd.underlying55 ty4 rfl (by omega) (by omega) rfl rfl rfl hs (fun b24 w hs => ?_)
      refine WL.val rfl (run_assign) ?_
      refine WL.nil ?_
      rw [rowC_zero] at hs
      have hp0 : (rowC n fun _ => false) = rowC n (partF N 0) := rowC_congr fun j _ => by unfold partF; rw [if_neg (by omega)]
      rw [hp0] at hs
      repeat (first | refine CW.seq ?_ | refine CW.block ?_ | refine CW.skip ?_ | refine CW.label ?_ | refine CW.exit ?_ | refine CW.condT rfl ?_ | refine CW.condF rfl ?_)
      refine CW.reg ?_
      refine WL.val rfl (run_assign) ?_
      refine WL.nil ?_
      repeat (first | refine CW.seq ?_ | refine CW.block ?_ | refine CW.skip ?_ | refine CW.label ?_ | refine CW.exit ?_ | refine CW.condT rfl ?_ | refine CW.condF rfl ?_)
      refine CW.loop (fun m f w' => ∃ k, k ≤ n + 1 ∧ m = n + 1 - k ∧ Step [] [(b24, blk 4 (rowC n (partF N k))), (bA, blk 4 (rowC n A))] w0 w' ∧ Holds f [(0, .slice (some ⟨bm, 0, none⟩) ms.length ms.length), (1, .slice (some ⟨bo, 0, none⟩) ms.length ms.length), (2, .int .i64 n), (7, .slice (some ⟨bA, 0, none⟩) (n + 1) (n + 1)), (8, .int .i64 i), (9, .slice (some ⟨b24, 0, none⟩) (n + 1) (n + 1)), (10, .int .i64 k)]) (m := n + 1) ?_ ?_
      · exact ⟨0, by omega, rfl, hs, rfl, rfl, rfl, rfl, rfl, rfl, rfl, trivial⟩
      · clear hs
        rintro m f w ⟨k, hk, rfl, hs, hf⟩
        have hobt := hf.chain
        obtain ⟨g, rfl⟩ := hobt
        by_cases hkn : k ≤ n
        · have hmc : w.cell? ⟨bm, 0 + i * 1, none⟩ = some (.bool mi) := by
            have := (hm.step hs (by simp)) i (.bool mi) (by rw [bools_get hlt, hmi])
            rwa [Nat.mul_one]
          have hl1 := rowC_len n (partF N k)
          have hAk : w.cell? ⟨bA, 0 + k * 1, none⟩ = some (.bool (A k)) := by
            rw [Nat.zero_add, Nat.mul_one]
            exact hs.c1 (rowC_get A hkn)
          cases mi with
          | true =>
            repeat (first | refine CW.seq ?_ | refine CW.block ?_ | refine CW.skip ?_ | refine CW.label ?_ | refine CW.exit ?_ | refine CW.condT rfl ?_ | refine CW.condF rfl ?_)
            refine CW.reg ?_
            refine WL.val rfl (run_move) ?_
            refine WL.val rfl (run_move) ?_
            refine WL.val rfl (run_bT (run_leq rfl rfl) (by omega)) ?_
            refine WL.nil ?_
            repeat (first | refine CW.seq ?_ | refine CW.block ?_ | refine CW.skip ?_ | refine CW.label ?_ | refine CW.exit ?_ | refine CW.condT rfl ?_ | refine CW.condF rfl ?_)
            refine CW.reg ?_
            refine WL.val rfl (run_move) ?_
            refine WL.val rfl (run_move) ?_
            first | refine WL.val rfl (run_ixSlN Tryd.underlying55 ty4 rfl rfl (by omega)) ?_ | refine WL.val rfl (run_ixSl Tryd.underlying55 ty4 rfl rfl (by omega)) ?_
            refine WL.val rfl (run_load1 ty4 rfl (hmc)) ?_
            refine WL.nil ?_
            cases hak : A k with
            | true =>
              rw [hak] at hAk
              have hv : true = N k := by
                rw [hNN]
                cases k with
                | zero => rw [nextF, hak]; rfl
                | succ k' => rw [nextF, if_pos rfl, hak, Bool.true_or]
              repeat (first | refine CW.seq ?_ | refine CW.block ?_ | refine CW.skip ?_ | refine CW.label ?_ | refine CW.exit ?_ | refine CW.condT rfl ?_ | refine CW.condF rfl ?_)
              refine CW.reg ?_
              refine WL.val rfl (run_move) ?_
              refine WL.val rfl (run_move) ?_
              refine WL.val rfl (run_move) ?_
              refine WL.val rfl (run_move) ?_
              first | refine WL.val rfl (run_ixSlN Tryd.underlying55 ty4 rfl rfl (by omega)) ?_ | refine WL.val rfl (run_ixSl Tryd.underlying55 ty4 rfl rfl (by omega)) ?_
              refine WL.val rfl (run_load1 ty4 rfl (hAk)) ?_
              refine WL.val rfl (run_move) ?_
              first | refine WL.no rfl rfl rfl (.inl rfl) ?_ | refine WL.no rfl rfl rfl (.inr rfl) ?_
              first | refine WL.no rfl rfl rfl (.inl rfl) ?_ | refine WL.no rfl rfl rfl (.inr rfl) ?_
              first | refine WL.no rfl rfl rfl (.inl rfl) ?_ | refine WL.no rfl rfl rfl (.inr rfl) ?_
              first | refine WL.no rfl rfl rfl (.inl rfl) ?_ | refine WL.no rfl rfl rfl (.inr rfl) ?_
              first | refine WL.no rfl rfl rfl (.inl rfl) ?_ | refine WL.no rfl rfl rfl (.inr rfl) ?_
              first | refine WL.no rfl rfl rfl (.inl rfl) ?_ | refine WL.no rfl rfl rfl (.inr rfl) ?_
              first | refine WL.no rfl rfl rfl (.inl rfl) ?_ | refine WL.no rfl rfl rfl (.inr rfl) ?_
              first | refine WL.no rfl rfl rfl (.inl rfl) ?_ | refine WL.no rfl rfl rfl (.inr rfl) ?_
              first | refine WL.no rfl rfl rfl (.inl rfl) ?_ | refine WL.no rfl rfl rfl (.inr rfl) ?_
              first | refine WL.val rfl (run_pickT rfl) ?_ | refine WL.val rfl (run_pickF rfl) ?_
              first | refine WL.val rfl (run_ixSlN Tryd.underlying55 ty4 rfl rfl (by omega)) ?_ | refine WL.val rfl (run_ixSl Tryd.underlying55 ty4 rfl rfl (by omega)) ?_
              first | refine WL.store1 ty4 rfl rfl (rfl) hs (by first | (simp; done) | omega | (simp only [List.length_append, List.length_replicate, List.length_cons, List.length_nil, List.length_set]; omega) | (simp [Ent.cells, u8s]; done) | exact Nat.le_of_ble_eq_true rfl) (fun w hs => ?_) | refine WL.store1_1 ty4 rfl rfl (rfl) hs (by first | (simp; done) | omega | (simp only [List.length_append, List.length_replicate, List.length_cons, List.length_nil, List.length_set]; omega) | (simp [Ent.cells, u8s]; done) | exact Nat.le_of_ble_eq_true rfl) (fun w hs => ?_) | refine WL.store1_2 ty4 rfl rfl (rfl) hs (by first | (simp; done) | omega | (simp only [List.length_append, List.length_replicate, List.length_cons, List.length_nil, List.length_set]; omega) | (simp [Ent.cells, u8s]; done) | exact Nat.le_of_ble_eq_true rfl) (fun w hs => ?_) | refine WL.store1_3 ty4 rfl rfl (rfl) hs (by first | (simp; done) | omega | (simp only [List.length_append, List.length_replicate, List.length_cons, List.length_nil, List.length_set]; omega) | (simp [Ent.cells, u8s]; done) | exact Nat.le_of_ble_eq_true rfl) (fun w hs => ?_) | refine WL.store1_4 ty4 rfl rfl (rfl) hs (by first | (simp; done) | omega | (simp only [List.length_append, List.length_replicate, List.length_cons, List.length_nil, List.length_set]; omega) | (simp [Ent.cells, u8s]; done) | exact Nat.le_of_ble_eq_true rfl) (fun w hs => ?_) | refine WL.store1 ty4 rfl rfl (rfl) hs (by first | (simp; done) | omega | (simp only [List.length_append, List.length_replicate, List.length_cons, List.length_nil, List.length_set]; omega) | (simp [Ent.cells, u8s]; done) | exact Nat.le_of_ble_eq_true rfl) (fun w hs => ?_)
              refine WL.nil ?_
              repeat (first | refine CW.seq ?_ | refine CW.block ?_ | refine CW.skip ?_ | refine CW.label ?_ | refine CW.exit ?_ | refine CW.condT rfl ?_ | refine CW.condF rfl ?_)
              refine CW.reg ?_
              refine WL.val rfl (run_move) ?_
              refine WL.val rfl (run_add (c := ((k + 1 : Nat) : Int)) rfl rfl (by omega) (by omega)) ?_
              refine WL.val rfl (run_assign) ?_
              refine WL.nil ?_
              repeat (first | refine CW.seq ?_ | refine CW.block ?_ | refine CW.skip ?_ | refine CW.label ?_ | refine CW.exit ?_)
              refine (show _ ∧ _ from ⟨rfl, _, ?_, k + 1, by omega, rfl, ?_, rfl, rfl, rfl, rfl, rfl, rfl, rfl, trivial⟩)
              · omega
              · exact (congrArg (fun cs => Step [] [(b24, blk 4 cs), (bA, blk 4 (rowC n A))] w0 w) (partF_set' hkn hv)).mp hs
            | false =>
              rw [hak] at hAk
              cases k with
              | zero =>
                have hv : false = N 0 := by rw [hNN, nextF, hak]; rfl
                repeat (first | refine CW.seq ?_ | refine CW.block ?_ | refine CW.skip ?_ | refine CW.label ?_ | refine CW.exit ?_ | refine CW.condT rfl ?_ | refine CW.condF rfl ?_)
                refine CW.reg ?_
                refine WL.val rfl (run_move) ?_
                refine WL.val rfl (run_move) ?_
                refine WL.val rfl (run_move) ?_
                refine WL.val rfl (run_move) ?_
                first | refine WL.val rfl (run_ixSlN Tryd.underlying55 ty4 rfl rfl (by omega)) ?_ | refine WL.val rfl (run_ixSl Tryd.underlying55 ty4 rfl rfl (by omega)) ?_
                refine WL.val rfl (run_load1 ty4 rfl (hAk)) ?_
                refine WL.val rfl (run_move) ?_
                refine WL.yes rfl rfl rfl ?_
                refine WL.val rfl (run_move) ?_
                refine WL.yes rfl rfl rfl ?_
                refine WL.val rfl (run_bF (run_gtr rfl rfl) (by omega)) ?_
                refine WL.yes rfl rfl rfl ?_
                refine WL.val rfl (run_move) ?_
                first | refine WL.no rfl rfl rfl (.inl rfl) ?_ | refine WL.no rfl rfl rfl (.inr rfl) ?_
                first | refine WL.no rfl rfl rfl (.inl rfl) ?_ | refine WL.no rfl rfl rfl (.inr rfl) ?_
                first | refine WL.no rfl rfl rfl (.inl rfl) ?_ | refine WL.no rfl rfl rfl (.inr rfl) ?_
                first | refine WL.no rfl rfl rfl (.inl rfl) ?_ | refine WL.no rfl rfl rfl (.inr rfl) ?_
                first | refine WL.no rfl rfl rfl (.inl rfl) ?_ | refine WL.no rfl rfl rfl (.inr rfl) ?_
                refine WL.yes rfl rfl rfl ?_
                first | refine WL.val rfl (run_pickT rfl) ?_ | refine WL.val rfl (run_pickF rfl) ?_
                first | refine WL.val rfl (run_pickT rfl) ?_ | refine WL.val rfl (run_pickF rfl) ?_
                first | refine WL.val rfl (run_ixSlN Tryd.underlying55 ty4 rfl rfl (by omega)) ?_ | refine WL.val rfl (run_ixSl Tryd.underlying55 ty4 rfl rfl (by omega)) ?_
                first | refine WL.store1 ty4 rfl rfl (rfl) hs (by first | (simp; done) | omega | (simp only [List.length_append, List.length_replicate, List.length_cons, List.length_nil, List.length_set]; omega) | (simp [Ent.cells, u8s]; done) | exact Nat.le_of_ble_eq_true rfl) (fun w hs => ?_) | refine WL.store1_1 ty4 rfl rfl (rfl) hs (by first | (simp; done) | omega | (simp only [List.length_append, List.length_replicate, List.length_cons, List.length_nil, List.length_set]; omega) | (simp [Ent.cells, u8s]; done) | exact Nat.le_of_ble_eq_true rfl) (fun w hs => ?_) | refine WL.store1_2 ty4 rfl rfl (rfl) hs (by first | (simp; done) | omega | (simp only [List.length_append, List.length_replicate, List.length_cons, List.length_nil, List.length_set]; omega) | (simp [Ent.cells, u8s]; done) | exact Nat.le_of_ble_eq_true rfl) (fun w hs => ?_) | refine WL.store1_3 ty4 rfl rfl (rfl) hs (by first | (simp; done) | omega | (simp only [List.length_append, List.length_replicate, List.length_cons, List.length_nil, List.length_set]; omega) | (simp [Ent.cells, u8s]; done) | exact Nat.le_of_ble_eq_true rfl) (fun w hs => ?_) | refine WL.store1_4 ty4 rfl rfl (rfl) hs (by first | (simp; done) | omega | (simp only [List.length_append, List.length_replicate, List.length_cons, List.length_nil, List.length_set]; omega) | (simp [Ent.cells, u8s]; done) | exact Nat.le_of_ble_eq_true rfl) (fun w hs => ?_) | refine WL.store1 ty4 rfl rfl (rfl) hs (by first | (simp; done) | omega | (simp only [List.length_append, List.length_replicate, List.length_cons, List.length_nil, List.length_set]; omega) | (simp [Ent.cells, u8s]; done) | exact Nat.le_of_ble_eq_true rfl) (fun w hs => ?_)
                refine WL.nil ?_
                repeat (first | refine CW.seq ?_ | refine CW.block ?_ | refine CW.skip ?_ | refine CW.label ?_ | refine CW.exit ?_ | refine CW.condT rfl ?_ | refine CW.condF rfl ?_)
                refine CW.reg ?_
                refine WL.val rfl (run_move) ?_
                refine WL.val rfl (run_add (c := ((0 + 1 : Nat) : Int)) rfl rfl (by omega) (by omega)) ?_
                refine WL.val rfl (run_assign) ?_
                refine WL.nil ?_
                repeat (first | refine CW.seq ?_ | refine CW.block ?_ | refine CW.skip ?_ | refine CW.label ?_ | refine CW.exit ?_)
                refine (show _ ∧ _ from ⟨rfl, _, ?_, 0 + 1, by omega, rfl, ?_, rfl, rfl, rfl, rfl, rfl, rfl, rfl, trivial⟩)
                · omega
                · exact (congrArg (fun cs => Step [] [(b24, blk 4 cs), (bA, blk 4 (rowC n A))] w0 w) (partF_set' hkn hv)).mp hs
              | succ k' =>
                have hpk : w.cell? ⟨b24, 0 + k' * 1, none⟩ = some (.bool (N k')) := by
                  rw [Nat.zero_add, Nat.mul_one]
                  have := hs.c0 (rowC_get (partF N (k' + 1)) (show k' ≤ n by omega))
                  rwa [partF_get (by omega)] at this
                have hobt : ∃ v, N k' = v := ⟨_, rfl⟩
                obtain ⟨v, hvv⟩ := hobt
                rw [hvv] at hpk
                have hv : v = N (k' + 1) := by
                  rw [hNN, nextF, if_pos rfl, hak, Bool.false_or, ← hNN, hvv]
                repeat (first | refine CW.seq ?_ | refine CW.block ?_ | refine CW.skip ?_ | refine CW.label ?_ | refine CW.exit ?_ | refine CW.condT rfl ?_ | refine CW.condF rfl ?_)
                refine CW.reg ?_
                refine WL.val rfl (run_move) ?_
                refine WL.val rfl (run_move) ?_
                refine WL.val rfl (run_move) ?_
                refine WL.val rfl (run_move) ?_
                first | refine WL.val rfl (run_ixSlN Tryd.underlying55 ty4 rfl rfl (by omega)) ?_ | refine WL.val rfl (run_ixSl Tryd.underlying55 ty4 rfl rfl (by omega)) ?_
                refine WL.val rfl (run_load1 ty4 rfl (hAk)) ?_
                refine WL.val rfl (run_move) ?_
                refine WL.yes rfl rfl rfl ?_
                refine WL.val rfl (run_move) ?_
                refine WL.yes rfl rfl rfl ?_
                refine WL.val rfl (run_bT (run_gtr rfl rfl) (by omega)) ?_
                refine WL.yes rfl rfl rfl ?_
                refine WL.val rfl (run_move) ?_
                refine WL.yes rfl rfl rfl ?_
                refine WL.val rfl (run_move) ?_
                refine WL.yes rfl rfl rfl ?_
                refine WL.val rfl (run_move) ?_
                refine WL.yes rfl rfl rfl ?_
                refine WL.val rfl (run_sub (c := (k' : Int)) rfl rfl (by omega) (by omega)) ?_
                refine WL.yes rfl rfl rfl ?_
                first | refine WL.val rfl (run_ixSlN Tryd.underlying55 ty4 rfl rfl (by omega)) ?_ | refine WL.val rfl (run_ixSl Tryd.underlying55 ty4 rfl rfl (by omega)) ?_
                refine WL.yes rfl rfl rfl ?_
                refine WL.val rfl (run_load1 ty4 rfl (hpk)) ?_
                refine WL.yes rfl rfl rfl ?_
                first | refine WL.val rfl (run_pickT rfl) ?_ | refine WL.val rfl (run_pickF rfl) ?_
                first | refine WL.val rfl (run_pickT rfl) ?_ | refine WL.val rfl (run_pickF rfl) ?_
                first | refine WL.val rfl (run_ixSlN Tryd.underlying55 ty4 rfl rfl (by omega)) ?_ | refine WL.val rfl (run_ixSl Tryd.underlying55 ty4 rfl rfl (by omega)) ?_
                first | refine WL.store1 ty4 rfl rfl (rfl) hs (by first | (simp; done) | omega | (simp only [List.length_append, List.length_replicate, List.length_cons, List.length_nil, List.length_set]; omega) | (simp [Ent.cells, u8s]; done) | exact Nat.le_of_ble_eq_true rfl) (fun w hs => ?_) | refine WL.store1_1 ty4 rfl rfl (rfl) hs (by first | (simp; done) | omega | (simp only [List.length_append, List.length_replicate, List.length_cons, List.length_nil, List.length_set]; omega) | (simp [Ent.cells, u8s]; done) | exact Nat.le_of_ble_eq_true rfl) (fun w hs => ?_) | refine WL.store1_2 ty4 rfl rfl (rfl) hs (by first | (simp; done) | omega | (simp only [List.length_append, List.length_replicate, List.length_cons, List.length_nil, List.length_set]; omega) | (simp [Ent.cells, u8s]; done) | exact Nat.le_of_ble_eq_true rfl) (fun w hs => ?_) | refine WL.store1_3 ty4 rfl rfl (rfl) hs (by first | (simp; done) | omega | (simp only [List.length_append, List.length_replicate, List.length_cons, List.length_nil, List.length_set]; omega) | (simp [Ent.cells, u8s]; done) | exact Nat.le_of_ble_eq_true rfl) (fun w hs => ?_) | refine WL.store1_4 ty4 rfl rfl (rfl) hs (by first | (simp; done) | omega | (simp only [List.length_append, List.length_replicate, List.length_cons, List.length_nil, List.length_set]; omega) | (simp [Ent.cells, u8s]; done) | exact Nat.le_of_ble_eq_true rfl) (fun w hs => ?_) | refine WL.store1 ty4 rfl rfl (rfl) hs (by first | (simp; done) | omega | (simp only [List.length_append, List.length_replicate, List.length_cons, List.length_nil, List.length_set]; omega) | (simp [Ent.cells, u8s]; done) | exact Nat.le_of_ble_eq_true rfl) (fun w hs => ?_)
                refine WL.nil ?_
                repeat (first | refine CW.seq ?_ | refine CW.block ?_ | refine CW.skip ?_ | refine CW.label ?_ | refine CW.exit ?_ | refine CW.condT rfl ?_ | refine CW.condF rfl ?_)
                refine CW.reg ?_
                refine WL.val rfl (run_move) ?_
                refine WL.val rfl (run_add (c := ((k' + 1 + 1 : Nat) : Int)) rfl rfl (by omega) (by omega)) ?_
                refine WL.val rfl (run_assign) ?_
                refine WL.nil ?_
                repeat (first | refine CW.seq ?_ | refine CW.block ?_ | refine CW.skip ?_ | refine CW.label ?_ | refine CW.exit ?_)
                refine (show _ ∧ _ from ⟨rfl, _, ?_, k' + 1 + 1, by omega, rfl, ?_, rfl, rfl, rfl, rfl, rfl, rfl, rfl, trivial⟩)
                · omega
                · exact (congrArg (fun cs => Step [] [(b24, blk 4 cs), (bA, blk 4 (rowC n A))] w0 w) (partF_set' hkn hv)).mp hs
          | false =>
            repeat (first | refine CW.seq ?_ | refine CW.block ?_ | refine CW.skip ?_ | refine CW.label ?_ | refine CW.exit ?_ | refine CW.condT rfl ?_ | refine CW.condF rfl ?_)
            refine CW.reg ?_
            refine WL.val rfl (run_move) ?_
            refine WL.val rfl (run_move) ?_
            refine WL.val rfl (run_bT (run_leq rfl rfl) (by omega)) ?_
            refine WL.nil ?_
            repeat (first | refine CW.seq ?_ | refine CW.block ?_ | refine CW.skip ?_ | refine CW.label ?_ | refine CW.exit ?_ | refine CW.condT rfl ?_ | refine CW.condF rfl ?_)
            refine CW.reg ?_
            refine WL.val rfl (run_move) ?_
            refine WL.val rfl (run_move) ?_
            first | refine WL.val rfl (run_ixSlN Tryd.underlying55 ty4 rfl rfl (by omega)) ?_ | refine WL.val rfl (run_ixSl Tryd.underlying55 ty4 rfl rfl (by omega)) ?_
            refine WL.val rfl (run_load1 ty4 rfl (hmc)) ?_
            refine WL.nil ?_
            cases k with
            | zero =>
              have hv : false = N 0 := by rw [hNN, nextF, Bool.false_and]
              repeat (first | refine CW.seq ?_ | refine CW.block ?_ | refine CW.skip ?_ | refine CW.label ?_ | refine CW.exit ?_ | refine CW.condT rfl ?_ | refine CW.condF rfl ?_)
              refine CW.reg ?_
              refine WL.val rfl (run_move) ?_
              refine WL.val rfl (run_move) ?_
              refine WL.val rfl (run_move) ?_
              refine WL.val rfl (run_bF (run_gtr rfl rfl) (by omega)) ?_
              refine WL.val rfl (run_move) ?_
              first | refine WL.no rfl rfl rfl (.inl rfl) ?_ | refine WL.no rfl rfl rfl (.inr rfl) ?_
              first | refine WL.no rfl rfl rfl (.inl rfl) ?_ | refine WL.no rfl rfl rfl (.inr rfl) ?_
              first | refine WL.no rfl rfl rfl (.inl rfl) ?_ | refine WL.no rfl rfl rfl (.inr rfl) ?_
              first | refine WL.no rfl rfl rfl (.inl rfl) ?_ | refine WL.no rfl rfl rfl (.inr rfl) ?_
              first | refine WL.no rfl rfl rfl (.inl rfl) ?_ | refine WL.no rfl rfl rfl (.inr rfl) ?_
              first | refine WL.val rfl (run_pickT rfl) ?_ | refine WL.val rfl (run_pickF rfl) ?_
              refine WL.val rfl (run_move) ?_
              first | refine WL.no rfl rfl rfl (.inl rfl) ?_ | refine WL.no rfl rfl rfl (.inr rfl) ?_
              first | refine WL.no rfl rfl rfl (.inl rfl) ?_ | refine WL.no rfl rfl rfl (.inr rfl) ?_
              first | refine WL.no rfl rfl rfl (.inl rfl) ?_ | refine WL.no rfl rfl rfl (.inr rfl) ?_
              first | refine WL.no rfl rfl rfl (.inl rfl) ?_ | refine WL.no rfl rfl rfl (.inr rfl) ?_
              first | refine WL.no rfl rfl rfl (.inl rfl) ?_ | refine WL.no rfl rfl rfl (.inr rfl) ?_
              first | refine WL.no rfl rfl rfl (.inl rfl) ?_ | refine WL.no rfl rfl rfl (.inr rfl) ?_
              first | refine WL.no rfl rfl rfl (.inl rfl) ?_ | refine WL.no rfl rfl rfl (.inr rfl) ?_
              first | refine WL.no rfl rfl rfl (.inl rfl) ?_ | refine WL.no rfl rfl rfl (.inr rfl) ?_
              first | refine WL.val rfl (run_pickT rfl) ?_ | refine WL.val rfl (run_pickF rfl) ?_
              first | refine WL.val rfl (run_ixSlN Tryd.underlying55 ty4 rfl rfl (by omega)) ?_ | refine WL.val rfl (run_ixSl Tryd.underlying55 ty4 rfl rfl (by omega)) ?_
              first | refine WL.store1 ty4 rfl rfl (rfl) hs (by first | (simp; done) | omega | (simp only [List.length_append, List.length_replicate, List.length_cons, List.length_nil, List.length_set]; omega) | (simp [Ent.cells, u8s]; done) | exact Nat.le_of_ble_eq_true rfl) (fun w hs => ?_) | refine WL.store1_1 ty4 rfl rfl (rfl) hs (by first | (simp; done) | omega | (simp only [List.length_append, List.length_replicate, List.length_cons, List.length_nil, List.length_set]; omega) | (simp [Ent.cells, u8s]; done) | exact Nat.le_of_ble_eq_true rfl) (fun w hs => ?_) | refine WL.store1_2 ty4 rfl rfl (rfl) hs (by first | (simp; done) | omega | (simp only [List.length_append, List.length_replicate, List.length_cons, List.length_nil, List.length_set]; omega) | (simp [Ent.cells, u8s]; done) | exact Nat.le_of_ble_eq_true rfl) (fun w hs => ?_) | refine WL.store1_3 ty4 rfl rfl (rfl) hs (by first | (simp; done) | omega | (simp only [List.length_append, List.length_replicate, List.length_cons, List.length_nil, List.length_set]; omega) | (simp [Ent.cells, u8s]; done) | exact Nat.le_of_ble_eq_true rfl) (fun w hs => ?_) | refine WL.store1_4 ty4 rfl rfl (rfl) hs (by first | (simp; done) | omega | (simp only [List.length_append, List.length_replicate, List.length_cons, List.length_nil, List.length_set]; omega) | (simp [Ent.cells, u8s]; done) | exact Nat.le_of_ble_eq_true rfl) (fun w hs => ?_) | refine WL.store1 ty4 rfl rfl (rfl) hs (by first | (simp; done) | omega | (simp only [List.length_append, List.length_replicate, List.length_cons, List.length_nil, List.length_set]; omega) | (simp [Ent.cells, u8s]; done) | exact Nat.le_of_ble_eq_true rfl) (fun w hs => ?_)
              refine WL.nil ?_
              repeat (first | refine CW.seq ?_ | refine CW.block ?_ | refine CW.skip ?_ | refine CW.label ?_ | refine CW.exit ?_ | refine CW.condT rfl ?_ | refine CW.condF rfl ?_)
              refine CW.reg ?_
              refine WL.val rfl (run_move) ?_
              refine WL.val rfl (run_add (c := ((0 + 1 : Nat) : Int)) rfl rfl (by omega) (by omega)) ?_
              refine WL.val rfl (run_assign) ?_
              refine WL.nil ?_
              repeat (first | refine CW.seq ?_ | refine CW.block ?_ | refine CW.skip ?_ | refine CW.label ?_ | refine CW.exit ?_)
              refine (show _ ∧ _ from ⟨rfl, _, ?_, 0 + 1, by omega, rfl, ?_, rfl, rfl, rfl, rfl, rfl, rfl, rfl, trivial⟩)
              · omega
              · exact (congrArg (fun cs => Step [] [(b24, blk 4 cs), (bA, blk 4 (rowC n A))] w0 w) (partF_set' hkn hv)).mp hs
            | succ k' =>
              have hAp : w.cell? ⟨bA, 0 + k' * 1, none⟩ = some (.bool (A k')) := by
                rw [Nat.zero_add, Nat.mul_one]
                exact hs.c1 (rowC_get A (show k' ≤ n by omega))
              cases hap : A k' with
              | false =>
                rw [hap] at hAp
                have hv : false = N (k' + 1) := by rw [hNN, nextF, if_neg (by simp), hap, Bool.false_and]
                repeat (first | refine CW.seq ?_ | refine CW.block ?_ | refine CW.skip ?_ | refine CW.label ?_ | refine CW.exit ?_ | refine CW.condT rfl ?_ | refine CW.condF rfl ?_)
                refine CW.reg ?_
                refine WL.val rfl (run_move) ?_
                refine WL.val rfl (run_move) ?_
                refine WL.val rfl (run_move) ?_
                refine WL.val rfl (run_bT (run_gtr rfl rfl) (by omega)) ?_
                refine WL.val rfl (run_move) ?_
                refine WL.yes rfl rfl rfl ?_
                refine WL.val rfl (run_move) ?_
                refine WL.yes rfl rfl rfl ?_
                refine WL.val rfl (run_move) ?_
                refine WL.yes rfl rfl rfl ?_
                refine WL.val rfl (run_sub (c := (k' : Int)) rfl rfl (by omega) (by omega)) ?_
                refine WL.yes rfl rfl rfl ?_
                first | refine WL.val rfl (run_ixSlN Tryd.underlying55 ty4 rfl rfl (by omega)) ?_ | refine WL.val rfl (run_ixSl Tryd.underlying55 ty4 rfl rfl (by omega)) ?_
                refine WL.yes rfl rfl rfl ?_
                refine WL.val rfl (run_load1 ty4 rfl (hAp)) ?_
                first | refine WL.val rfl (run_pickT rfl) ?_ | refine WL.val rfl (run_pickF rfl) ?_
                refine WL.val rfl (run_move) ?_
                first | refine WL.no rfl rfl rfl (.inl rfl) ?_ | refine WL.no rfl rfl rfl (.inr rfl) ?_
                first | refine WL.no rfl rfl rfl (.inl rfl) ?_ | refine WL.no rfl rfl rfl (.inr rfl) ?_
                first | refine WL.no rfl rfl rfl (.inl rfl) ?_ | refine WL.no rfl rfl rfl (.inr rfl) ?_
                first | refine WL.no rfl rfl rfl (.inl rfl) ?_ | refine WL.no rfl rfl rfl (.inr rfl) ?_
                first | refine WL.no rfl rfl rfl (.inl rfl) ?_ | refine WL.no rfl rfl rfl (.inr rfl) ?_
                first | refine WL.no rfl rfl rfl (.inl rfl) ?_ | refine WL.no rfl rfl rfl (.inr rfl) ?_
                first | refine WL.no rfl rfl rfl (.inl rfl) ?_ | refine WL.no rfl rfl rfl (.inr rfl) ?_
                first | refine WL.no rfl rfl rfl (.inl rfl) ?_ | refine WL.no rfl rfl rfl (.inr rfl) ?_
                first | refine WL.val rfl (run_pickT rfl) ?_ | refine WL.val rfl (run_pickF rfl) ?_
                first | refine WL.val rfl (run_ixSlN Tryd.underlying55 ty4 rfl rfl (by omega)) ?_ | refine WL.val rfl (run_ixSl Tryd.underlying55 ty4 rfl rfl (by omega)) ?_
                first | refine WL.store1 ty4 rfl rfl (rfl) hs (by first | (simp; done) | omega | (simp only [List.length_append, List.length_replicate, List.length_cons, List.length_nil, List.length_set]; omega) | (simp [Ent.cells, u8s]; done) | exact Nat.le_of_ble_eq_true rfl) (fun w hs => ?_) | refine WL.store1_1 ty4 rfl rfl (rfl) hs (by first | (simp; done) | omega | (simp only [List.length_append, List.length_replicate, List.length_cons, List.length_nil, List.length_set]; omega) | (simp [Ent.cells, u8s]; done) | exact Nat.le_of_ble_eq_true rfl) (fun w hs => ?_) | refine WL.store1_2 ty4 rfl rfl (rfl) hs (by first | (simp; done) | omega | (simp only [List.length_append, List.length_replicate, List.length_cons, List.length_nil, List.length_set]; omega) | (simp [Ent.cells, u8s]; done) | exact Nat.le_of_ble_eq_true rfl) (fun w hs => ?_) | refine WL.store1_3 ty4 rfl rfl (rfl) hs (by first | (simp; done) | omega | (simp only [List.length_append, List.length_replicate, List.length_cons, List.length_nil, List.length_set]; omega) | (simp [Ent.cells, u8s]; done) | exact Nat.le_of_ble_eq_true rfl) (fun w hs => ?_) | refine WL.store1_4 ty4 rfl rfl (rfl) hs (by first | (simp; done) | omega | (simp only [List.length_append, List.length_replicate, List.length_cons, List.length_nil, List.length_set]; omega) | (simp [Ent.cells, u8s]; done) | exact Nat.le_of_ble_eq_true rfl) (fun w hs => ?_) | refine WL.store1 ty4 rfl rfl (rfl) hs (by first | (simp; done) | omega | (simp only [List.length_append, List.length_replicate, List.length_cons, List.length_nil, List.length_set]; omega) | (simp [Ent.cells, u8s]; done) | exact Nat.le_of_ble_eq_true rfl) (fun w hs => ?_)
                refine WL.nil ?_
                repeat (first | refine CW.seq ?_ | refine CW.block ?_ | refine CW.skip ?_ | refine CW.label ?_ | refine CW.exit ?_ | refine CW.condT rfl ?_ | refine CW.condF rfl ?_)
                refine CW.reg ?_
                refine WL.val rfl (run_move) ?_
                refine WL.val rfl (run_add (c := ((k' + 1 + 1 : Nat) : Int)) rfl rfl (by omega) (by omega)) ?_
                refine WL.val rfl (run_assign) ?_
                refine WL.nil ?_
                repeat (first | refine CW.seq ?_ | refine CW.block ?_ | refine CW.skip ?_ | refine CW.label ?_ | refine CW.exit ?_)
                refine (show _ ∧ _ from ⟨rfl, _, ?_, k' + 1 + 1, by omega, rfl, ?_, rfl, rfl, rfl, rfl, rfl, rfl, rfl, trivial⟩)
                · omega
                · exact (congrArg (fun cs => Step [] [(b24, blk 4 cs), (bA, blk 4 (rowC n A))] w0 w) (partF_set' hkn hv)).mp hs
              | true =>
                rw [hap] at hAp
                have hobt : ∃ bi, bs[i]? = some bi := ⟨_, List.getElem?_eq_getElem (by omega)⟩
                obtain ⟨bi, hbi⟩ := hobt
                have hobt := hrow i bi hbi
                obtain ⟨hrl, hrA⟩ := hobt
                rw [hoi] at hrl hrA
                have hoc : w.cell? ⟨bo, 0 + i * 1, none⟩ = some (.slice (some ⟨bi, 0, none⟩) n n) := by
                  rw [Nat.mul_one]
                  exact (ho.step hs (by simp)) i _ (by simp [hbi])
                have hrc : w.cell? ⟨bi, 0 + k' * 1, none⟩ = some (.bool (oi.getD k' false)) := by
                  rw [Nat.mul_one]
                  exact (hrA.step hs (by simp)) k' _ (bools_get (by omega))
                have hv : oi.getD k' false = N (k' + 1) := by rw [hNN, nextF, if_neg (by simp), hap, Bool.true_and]
                repeat (first | refine CW.seq ?_ | refine CW.block ?_ | refine CW.skip ?_ | refine CW.label ?_ | refine CW.exit ?_ | refine CW.condT rfl ?_ | refine CW.condF rfl ?_)
                refine CW.reg ?_
                refine WL.val rfl (run_move) ?_
                refine WL.val rfl (run_move) ?_
                refine WL.val rfl (run_move) ?_
                refine WL.val rfl (run_bT (run_gtr rfl rfl) (by omega)) ?_
                refine WL.val rfl (run_move) ?_
                refine WL.yes rfl rfl rfl ?_
                refine WL.val rfl (run_move) ?_
                refine WL.yes rfl rfl rfl ?_
                refine WL.val rfl (run_move) ?_
                refine WL.yes rfl rfl rfl ?_
                refine WL.val rfl (run_sub (c := (k' : Int)) rfl rfl (by omega) (by omega)) ?_
                refine WL.yes rfl rfl rfl ?_
                first | refine WL.val rfl (run_ixSlN Tryd.underlying55 ty4 rfl rfl (by omega)) ?_ | refine WL.val rfl (run_ixSl Tryd.underlying55 ty4 rfl rfl (by omega)) ?_
                refine WL.yes rfl rfl rfl ?_
                refine WL.val rfl (run_load1 ty4 rfl (hAp)) ?_
                first | refine WL.val rfl (run_pickT rfl) ?_ | refine WL.val rfl (run_pickF rfl) ?_
                refine WL.val rfl (run_move) ?_
                refine WL.yes rfl rfl rfl ?_
                refine WL.val rfl (run_move) ?_
                refine WL.yes rfl rfl rfl ?_
                refine WL.val rfl (run_move) ?_
                refine WL.yes rfl rfl rfl ?_
                first | refine WL.val rfl (run_ixSlN Tryd.underlying56 ty55 rfl rfl (by omega)) ?_ | refine WL.val rfl (run_ixSl Tryd.underlying56 ty55 rfl rfl (by omega)) ?_
                refine WL.yes rfl rfl rfl ?_
                refine WL.val rfl (run_load1 ty55 rfl (hoc)) ?_
                refine WL.yes rfl rfl rfl ?_
                refine WL.val rfl (run_move) ?_
                refine WL.yes rfl rfl rfl ?_
                refine WL.val rfl (run_sub (c := (k' : Int)) rfl rfl (by omega) (by omega)) ?_
                refine WL.yes rfl rfl rfl ?_
                first | refine WL.val rfl (run_ixSlN Tryd.underlying55 ty4 rfl rfl (by omega)) ?_ | refine WL.val rfl (run_ixSl Tryd.underlying55 ty4 rfl rfl (by omega)) ?_
                refine WL.yes rfl rfl rfl ?_
                refine WL.val rfl (run_load1 ty4 rfl (hrc)) ?_
                first | refine WL.val rfl (run_pickT rfl) ?_ | refine WL.val rfl (run_pickF rfl) ?_
                first | refine WL.val rfl (run_ixSlN Tryd.underlying55 ty4 rfl rfl (by omega)) ?_ | refine WL.val rfl (run_ixSl Tryd.underlying55 ty4 rfl rfl (by omega)) ?_
                first | refine WL.store1 ty4 rfl rfl (rfl) hs (by first | (simp; done) | omega | (simp only [List.length_append, List.length_replicate, List.length_cons, List.length_nil, List.length_set]; omega) | (simp [Ent.cells, u8s]; done) | exact Nat.le_of_ble_eq_true rfl) (fun w hs => ?_) | refine WL.store1_1 ty4 rfl rfl (rfl) hs (by first | (simp; done) | omega | (simp only [List.length_append, List.length_replicate, List.length_cons, List.length_nil, List.length_set]; omega) | (simp [Ent.cells, u8s]; done) | exact Nat.le_of_ble_eq_true rfl) (fun w hs => ?_) | refine WL.store1_2 ty4 rfl rfl (rfl) hs (by first | (simp; done) | omega | (simp only [List.length_append, List.length_replicate, List.length_cons, List.length_nil, List.length_set]; omega) | (simp [Ent.cells, u8s]; done) | exact Nat.le_of_ble_eq_true rfl) (fun w hs => ?_) | refine WL.store1_3 ty4 rfl rfl (rfl) hs (by first | (simp; done) | omega | (simp only [List.length_append, List.length_replicate, List.length_cons, List.length_nil, List.length_set]; omega) | (simp [Ent.cells, u8s]; done) | exact Nat.le_of_ble_eq_true rfl) (fun w hs => ?_) | refine WL.store1_4 ty4 rfl rfl (rfl) hs (by first | (simp; done) | omega | (simp only [List.length_append, List.length_replicate, List.length_cons, List.length_nil, List.length_set]; omega) | (simp [Ent.cells, u8s]; done) | exact Nat.le_of_ble_eq_true rfl) (fun w hs => ?_) | refine WL.store1 ty4 rfl rfl (rfl) hs (by first | (simp; done) | omega | (simp only [List.length_append, List.length_replicate, List.length_cons, List.length_nil, List.length_set]; omega) | (simp [Ent.cells, u8s]; done) | exact Nat.le_of_ble_eq_true rfl) (fun w hs => ?_)
                refine WL.nil ?_
                repeat (first | refine CW.seq ?_ | refine CW.block ?_ | refine CW.skip ?_ | refine CW.label ?_ | refine CW.exit ?_ | refine CW.condT rfl ?_ | refine CW.condF rfl ?_)
                refine CW.reg ?_
                refine WL.val rfl (run_move) ?_
                refine WL.val rfl (run_add (c := ((k' + 1 + 1 : Nat) : Int)) rfl rfl (by omega) (by omega)) ?_
                refine WL.val rfl (run_assign) ?_
                refine WL.nil ?_
                repeat (first | refine CW.seq ?_ | refine CW.block ?_ | refine CW.skip ?_ | refine CW.label ?_ | refine CW.exit ?_)
                refine (show _ ∧ _ from ⟨rfl, _, ?_, k' + 1 + 1, by omega, rfl, ?_, rfl, rfl, rfl, rfl, rfl, rfl, rfl, trivial⟩)
                · omega
                · exact (congrArg (fun cs => Step [] [(b24, blk 4 cs), (bA, blk 4 (rowC n A))] w0 w) (partF_set' hkn hv)).mp hs
        · obtain rfl : k = n + 1 := by omega
          have hpe : rowC n (partF N (n + 1)) = rowC n N := rowC_congr fun j hj => partF_get (by omega)
          rw [hpe, ← hN] at hs
          repeat (first | refine CW.seq ?_ | refine CW.block ?_ | refine CW.skip ?_ | refine CW.label ?_ | refine CW.exit ?_ | refine CW.condT rfl ?_ | refine CW.condF rfl ?_)
          refine CW.reg ?_
          refine WL.val rfl (run_move) ?_
          refine WL.val rfl (run_move) ?_
          refine WL.val rfl (run_bF (run_leq rfl rfl) (by omega)) ?_
          refine WL.nil ?_
          repeat (first | refine CW.seq ?_ | refine CW.block ?_ | refine CW.skip ?_ | refine CW.label ?_ | refine CW.exit ?_ | refine CW.condT rfl ?_ | refine CW.condF rfl ?_)
          refine CW.reg ?_
          refine WL.val rfl (run_move) ?_
          refine WL.val rfl (run_assign) ?_
          refine WL.nil ?_
          repeat (first | refine CW.seq ?_ | refine CW.block ?_ | refine CW.skip ?_ | refine CW.label ?_ | refine CW.exit ?_ | refine CW.condT rfl ?_ | refine CW.condF rfl ?_)
          refine CW.reg ?_
          refine WL.val rfl (run_move) ?_
          refine WL.val rfl (run_add (c := ((i + 1 : Nat) : Int)) rfl rfl (by omega) (by omega)) ?_
          refine WL.val rfl (run_assign) ?_
          refine WL.nil ?_
          repeat (first | refine CW.seq ?_ | refine CW.block ?_ | refine CW.skip ?_ | refine CW.label ?_ | refine CW.exit ?_)
          refine (show _ ∧ _ from ⟨rfl, _, ?_, i + 1, b24, by omega, rfl, hs.dropR (L1 := [_]), rfl, rfl, rfl, rfl, rfl, trivial⟩)
          omega
    · obtain rfl : i = ms.length := by omega
      have hc : w.cell? ⟨bA, 0 + n * 1, none⟩ = some (.bool (dpI ms os ms.length n)) := by
        rw [Nat.zero_add, Nat.mul_one]
        exact hs.c0 (rowC_get _ (Nat.le_refl n))
      repeat (first | refine CW.seq ?_ | refine CW.block ?_ | refine CW.skip ?_ | refine CW.label ?_ | refine CW.exit ?_ | refine CW.condT rfl ?_ | refine CW.condF rfl ?_)
      refine CW.reg ?_
      refine WL.val rfl (run_move) ?_
      refine WL.val rfl (run_move) ?_
      refine WL.val rfl (run_lenSl Tryd.underlying55 rfl) ?_
      refine WL.val rfl (run_bF (run_lss rfl rfl) (by omega)) ?_
      refine WL.nil ?_
      repeat (first | refine CW.seq ?_ | refine CW.block ?_ | refine CW.skip ?_ | refine CW.label ?_ | refine CW.exit ?_ | refine CW.condT rfl ?_ | refine CW.condF rfl ?_)
      refine CW.reg ?_
      refine WL.val rfl (run_move) ?_
      refine WL.val rfl (run_move) ?_
      first | refine WL.val rfl (run_ixSlN Tryd.underlying55 ty4 rfl rfl (by omega)) ?_ | refine WL.val rfl (run_ixSl Tryd.underlying55 ty4 rfl rfl (by omega)) ?_
      refine WL.val rfl (run_load1 ty4 rfl (hc)) ?_
      refine WL.val rfl (run_assign) ?_
      refine WL.nil ?_
      repeat (first | refine CW.seq ?_ | refine CW.block ?_ | refine CW.skip ?_ | refine CW.label ?_ | refine CW.exit ?_ | refine CW.condT rfl ?_ | refine CW.condF rfl ?_)
      refine CW.ret ?_
      refine fin_ret1 rfl ?_
      exact ⟨rfl, hs.clear⟩
end Go.Gx
