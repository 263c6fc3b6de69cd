/- PathPlain: patterns without marks; patterns of stars. -/
import Derived.Test.YtnoamfcnamlbhaaDoorPLine
import Derived.Test.YtnoamfcnamlbhaaDoorRPat
namespace Go.Gx
open Go.Proofs Go.RowKit
set_option linter.unusedVariables false
set_option linter.unusedSimpArgs false
set_option maxRecDepth 100000

theorem goesM_plain {α : Type} [DecidableEq α] {any : α → Bool} {of : α → α → Bool} : ∀ (x y : List α), (∀ p ∈ x, any p = false) → (∀ p ∈ x, ∀ q, of p q = decide (p = q)) → goesM any of x y = decide (x = y)
  | [], [], _, _ => by rw [goesM_nil]; rfl
  | [], b :: y, _, _ => by rw [goesM_nil_cons]; rfl
  | a :: x, [], h, _ => by rw [goesM_one_nil (h a (by simp))]; rfl
  | a :: x, b :: y, h, h2 => by
    rw [goesM_one (h a (by simp)), h2 a (by simp) b, goesM_plain x y (fun p hp => h p (by simp [hp])) (fun p hp => h2 p (by simp [hp]))]
    simp
theorem goesM_rep {α : Type} {any : α → Bool} {of : α → α → Bool} {s : α} (hs : any s = false) (ho : ∀ q, of s q = true) : ∀ (n : Nat) (y : List α), goesM any of (List.replicate n s) y = decide (n = y.length)
  | 0, [] => by rw [List.replicate_zero, goesM_nil]; rfl
  | 0, b :: y => by rw [List.replicate_zero, goesM_nil_cons]; rfl
  | n + 1, [] => by rw [List.replicate_succ, goesM_one_nil hs]; rfl
  | n + 1, b :: y => by
    rw [List.replicate_succ, goesM_one hs, ho, Bool.true_and, goesM_rep hs ho n y]
    simp
theorem goesM_all {α : Type} {any : α → Bool} {of : α → α → Bool} {s : α} (hs : any s = true) : ∀ y : List α, goesM any of [s] y = true
  | [] => by rw [goesM_cn, hs, goesM_nil]; rfl
  | b :: y => by rw [goesM_cc hs, goesM_all hs y, Bool.or_true]

theorem piecesL_flat : ∀ (n : Nat) (s : List UInt8), s.length ≤ n → (piecesL s).flatten = s
  | n, s, hn => by
    by_cases h : s = []
    · rw [h, piecesL_nil]; rfl
    · have h1 := widthL_pos s
      have h2 := List.length_pos_iff.2 h
      rw [piecesL_some h, List.flatten_cons, piecesL_flat (n - 1) (s.drop (widthL s)) (by rw [List.length_drop]; omega), List.take_append_drop]
  termination_by n s => s.length
  decreasing_by
    simp only [List.length_drop]
    omega
theorem piecesL_inj {s t : List UInt8} (h : piecesL s = piecesL t) : s = t := by
  rw [← piecesL_flat s.length s (Nat.le_refl _), ← piecesL_flat t.length t (Nat.le_refl _), h]
theorem piecesL_mem {s a : List UInt8} {c : UInt8} (h : a ∈ piecesL s) (hc : c ∈ a) : c ∈ s := by
  rw [← piecesL_flat s.length s (Nat.le_refl _)]
  exact List.mem_flatten.2 ⟨a, h, hc⟩
theorem splitL_mem : ∀ (s p : List UInt8) (c : UInt8), p ∈ splitL s → c ∈ p → c ∈ s
  | [], p, c, h, hc => by
    rw [splitL, List.mem_singleton] at h
    subst h
    exact hc
  | a :: s, p, c, h, hc => by
    rw [splitL] at h
    split at h
    · rcases List.mem_cons.1 h with rfl | h
      · cases hc
      · exact List.mem_cons_of_mem _ (splitL_mem s p c h hc)
    · split at h
      · rename_i he
        exact absurd he (splitL_ne s)
      · rename_i q qs he
        rcases List.mem_cons.1 h with rfl | h
        · rcases List.mem_cons.1 hc with rfl | hc
          · exact List.mem_cons_self
          · exact List.mem_cons_of_mem _ (splitL_mem s q c (by rw [he]; exact List.mem_cons_self) hc)
        · exact List.mem_cons_of_mem _ (splitL_mem s p c (by rw [he]; exact List.mem_cons_of_mem _ h) hc)
theorem partsL_mem {s p : List UInt8} {c : UInt8} (h : p ∈ partsL s) (hc : c ∈ p) : c ∈ s := by
  unfold partsL at h
  split at h
  · cases h
  · exact splitL_mem s p c h hc
theorem partsL_inj {s t : List UInt8} (h : partsL s = partsL t) : s = t := by
  rw [← joinL_partsL s, ← joinL_partsL t, h]

theorem ofPart_plain {p q : List UInt8} (h1 : 42 ∉ p) (h2 : 63 ∉ p) : ofPart p q = decide (p = q) := by
  rw [ofPart, goesM_plain (piecesL p) (piecesL q) (fun a ha => decide_eq_false fun e => h1 (piecesL_mem ha (by rw [e]; simp))) (fun a ha b => by
    rw [pieceEq, decide_eq_false (fun e => h2 (piecesL_mem ha (by rw [e]; simp))), Bool.false_or])]
  exact decide_eq_decide.2 ⟨piecesL_inj, fun e => by rw [e]⟩
theorem matchM_plain {s t : List UInt8} (h1 : 42 ∉ s) (h2 : 63 ∉ s) : matchM s t = decide (s = t) := by
  rw [matchM, goesM_plain (partsL s) (partsL t) (fun a ha => decide_eq_false fun e => h1 (partsL_mem ha (by rw [e]; simp))) (fun a ha b => ofPart_plain (fun h => h1 (partsL_mem ha h)) (fun h => h2 (partsL_mem ha h)))]
  exact decide_eq_decide.2 ⟨partsL_inj, fun e => by rw [e]⟩
theorem pieces_star : piecesL [42] = [[42]] := by
  have e : widthL [42] = 1 := by decide
  rw [piecesL_some (by simp), e]
  show [42] :: piecesL [] = [[42]]
  rw [piecesL_nil]
theorem ofPart_star (q : List UInt8) : ofPart [42] q = true := by
  rw [ofPart, pieces_star]
  exact goesM_all (by decide) _
theorem named_stars (n : Nat) : Named (List.replicate n [42]) := fun p hp => by
  rw [(List.mem_replicate.1 hp).2]
  decide
def starsL (n : Nat) : List UInt8 := joinL (List.replicate n [42])
theorem parts_stars (n : Nat) : partsL (starsL n) = List.replicate n [42] := partsL_joinL (named_stars n)
theorem stars_zero : starsL 0 = [] := rfl
theorem stars_succ (n : Nat) : starsL (n + 1) = (if 0 < n then starsL n ++ [47] else starsL n) ++ [42] := by
  rw [starsL, List.replicate_succ', joinL_snoc, List.length_replicate]
  rfl
theorem stars_len (n : Nat) : (starsL n).length ≤ 2 * n := by
  have := join_len (List.replicate n [42])
  rw [List.map_replicate, List.sum_replicate_nat] at this
  rw [starsL]
  simp at this
  omega
theorem match_ok {s q : List UInt8} (h1 : s.length ≤ 4096) (h2 : (partsL s).all okPat = true) (hq : isCleanL q = true) : matchR s q = (matchM s q, 0) := by
  have := clean_len hq
  rw [matchR, if_neg (by omega), if_neg (by simp [h2]), if_neg (by simp [hq])]
theorem match_stars {q : List UInt8} {n : Nat} (hn : n ≤ 1000) (hq : isCleanL q = true) : matchR (starsL n) q = (decide (n = (partsL q).length), 0) := by
  have := stars_len n
  rw [match_ok (by omega) (by rw [parts_stars]; exact List.all_eq_true.2 fun p hp => by rw [(List.mem_replicate.1 hp).2]; decide) hq, matchM, parts_stars, goesM_rep (by decide) ofPart_star]
theorem match_all {q : List UInt8} (hq : isCleanL q = true) : matchR [42, 42] q = (true, 0) := by
  have e : partsL [42, 42] = [[42, 42]] := by decide
  rw [match_ok (by simp) (by rw [e]; decide) hq, matchM, e, goesM_all (by decide)]
theorem match_zero {s q : List UInt8} {b : Bool} (h : matchR s q = (b, 0)) : b = matchM s q := by
  unfold matchR at h
  split at h
  · cases h
  · split at h
    · cases h
    · split at h
      · cases h
      · cases h; rfl

def specialL (s : List UInt8) : Bool := s.any fun c => decide (c = 42) || decide (c = 63)
theorem u8_63 {c : UInt8} : ((c.toNat : Int) = 63) ↔ c = 63 := by
  constructor
  · intro h; exact UInt8.toNat_inj.1 (by simpa using (show c.toNat = 63 by omega))
  · rintro rfl; rfl
theorem special_spec {s : List UInt8} (w0 : World) (hs1 : s.length ≤ 9223372036854775800) : Calls Tryd.prog 21 #[str s] w0 (Ret0 (.bool (specialL s)) w0) := by
  have hs : Step [] [] w0 w0 := Step.refl w0
  refine calls (n := 20) Tryd.func21 rfl rfl rfl ?_
  repeat (first | refine CW.seq ?_ | refine CW.block ?_ | refine CW.skip ?_ | refine CW.label ?_ | refine CW.exit ?_ | refine CW.condT rfl ?_ | refine CW.condF rfl ?_)
  refine CW.reg ?_
  refine WL.val rfl (run_assign) ?_
  refine WL.nil ?_
  repeat (first | refine CW.seq ?_ | refine CW.block ?_ | refine CW.skip ?_ | refine CW.label ?_ | refine CW.exit ?_ | refine CW.condT rfl ?_ | refine CW.condF rfl ?_)
  refine CW.reg ?_
  refine WL.val rfl (run_assign) ?_
  refine WL.nil ?_
  repeat (first | refine CW.seq ?_ | refine CW.block ?_ | refine CW.skip ?_ | refine CW.label ?_ | refine CW.exit ?_ | refine CW.condT rfl ?_ | refine CW.condF rfl ?_)
  refine CW.loop (fun m f w' => ∃ i, i ≤ s.length ∧ m = s.length - i ∧ specialL s = specialL (s.drop i) ∧ Step [] [] w0 w' ∧ Holds f [(0, str s), (3, .int .i64 i)]) (m := s.length) ?_ ?_
  · exact ⟨0, Nat.zero_le _, rfl, rfl, hs, rfl, rfl, trivial⟩
  · clear hs
    rintro m f w ⟨i, hi, rfl, hgo, hs, hf⟩
    have hobt := hf.chain
    obtain ⟨g, rfl⟩ := hobt
    by_cases hlt : i < s.length
    · have hobt : ∃ c, s[i]? = some c := ⟨_, List.getElem?_eq_getElem hlt⟩
      obtain ⟨c, hc⟩ := hobt
      have hge : s[i] = c := (List.getElem?_eq_some_iff.1 hc).2
      rw [List.drop_eq_getElem_cons hlt, hge] at hgo
      by_cases h1 : c = 42
      · have e : specialL s = true := by rw [hgo, specialL, List.any_cons, decide_eq_true h1]; rfl
        repeat (first | refine CW.seq ?_ | refine CW.block ?_ | refine CW.skip ?_ | refine CW.label ?_ | refine CW.exit ?_ | refine CW.condT rfl ?_ | refine CW.condF rfl ?_)
        refine CW.reg ?_
        refine WL.val rfl (run_move) ?_
        refine WL.val rfl (run_move) ?_
        refine WL.val rfl (run_lenStr Tryd.underlying9 rfl) ?_
        refine WL.val rfl (run_bT (run_lss rfl rfl) (by omega)) ?_
        refine WL.nil ?_
        repeat (first | refine CW.seq ?_ | refine CW.block ?_ | refine CW.skip ?_ | refine CW.label ?_ | refine CW.exit ?_ | refine CW.condT rfl ?_ | refine CW.condF rfl ?_)
        refine CW.reg ?_
        refine WL.val rfl (run_move) ?_
        refine WL.val rfl (run_move) ?_
        refine WL.val rfl (run_strIdx Tryd.underlying9 rfl rfl (hc)) ?_
        refine WL.val rfl (run_bT (run_eql rfl rfl) (by exact u8_42.2 h1)) ?_
        refine WL.val rfl (run_move) ?_
        first | (refine WL.yes rfl rfl rfl ?_; refine WL.val rfl (run_move) ?_) | refine WL.no rfl rfl rfl (.inl rfl) ?_ | refine WL.no rfl rfl rfl (.inr rfl) ?_
        first | (refine WL.yes rfl rfl rfl ?_; refine WL.val rfl (run_move) ?_) | refine WL.no rfl rfl rfl (.inl rfl) ?_ | refine WL.no rfl rfl rfl (.inr rfl) ?_
        first | refine WL.no rfl rfl rfl (.inl rfl) ?_ | refine WL.no rfl rfl rfl (.inr rfl) ?_
        first | (refine WL.yes rfl rfl rfl ?_; refine WL.val rfl (run_eql rfl rfl) ?_) | refine WL.no rfl rfl rfl (.inl rfl) ?_ | refine WL.no rfl rfl rfl (.inr rfl) ?_
        first | refine WL.val rfl (run_pickT rfl) ?_ | refine WL.val rfl (run_pickF rfl) ?_
        refine WL.nil ?_
        repeat (first | refine CW.seq ?_ | refine CW.block ?_ | refine CW.skip ?_ | refine CW.label ?_ | refine CW.exit ?_ | refine CW.condT rfl ?_ | refine CW.condF rfl ?_)
        refine CW.reg ?_
        refine WL.val rfl (run_assign) ?_
        refine WL.nil ?_
        repeat (first | refine CW.seq ?_ | refine CW.block ?_ | refine CW.skip ?_ | refine CW.label ?_ | refine CW.exit ?_ | refine CW.condT rfl ?_ | refine CW.condF rfl ?_)
        refine CW.ret ?_
        refine fin_ret1 rfl ?_
        exact ⟨congrArg (fun b => Ending.returned (.bool b)) e.symm, hs⟩
      · by_cases h2 : c = 63
        · have e : specialL s = true := by rw [hgo, specialL, List.any_cons, decide_eq_true h2, Bool.or_true]; rfl
          repeat (first | refine CW.seq ?_ | refine CW.block ?_ | refine CW.skip ?_ | refine CW.label ?_ | refine CW.exit ?_ | refine CW.condT rfl ?_ | refine CW.condF rfl ?_)
          refine CW.reg ?_
          refine WL.val rfl (run_move) ?_
          refine WL.val rfl (run_move) ?_
          refine WL.val rfl (run_lenStr Tryd.underlying9 rfl) ?_
          refine WL.val rfl (run_bT (run_lss rfl rfl) (by omega)) ?_
          refine WL.nil ?_
          repeat (first | refine CW.seq ?_ | refine CW.block ?_ | refine CW.skip ?_ | refine CW.label ?_ | refine CW.exit ?_ | refine CW.condT rfl ?_ | refine CW.condF rfl ?_)
          refine CW.reg ?_
          refine WL.val rfl (run_move) ?_
          refine WL.val rfl (run_move) ?_
          refine WL.val rfl (run_strIdx Tryd.underlying9 rfl rfl (hc)) ?_
          refine WL.val rfl (run_bF (run_eql rfl rfl) (by (exact fun h => h1 (u8_42.1 h)))) ?_
          refine WL.val rfl (run_move) ?_
          first | (refine WL.yes rfl rfl rfl ?_; refine WL.val rfl (run_move) ?_) | refine WL.no rfl rfl rfl (.inl rfl) ?_ | refine WL.no rfl rfl rfl (.inr rfl) ?_
          first | (refine WL.yes rfl rfl rfl ?_; refine WL.val rfl (run_move) ?_) | refine WL.no rfl rfl rfl (.inl rfl) ?_ | refine WL.no rfl rfl rfl (.inr rfl) ?_
          refine WL.yes rfl rfl rfl ?_
          refine WL.val rfl (run_strIdx Tryd.underlying9 rfl rfl (hc)) ?_
          refine WL.yes rfl rfl rfl ?_
          refine WL.val rfl (run_bT (run_eql rfl rfl) (by exact u8_63.2 h2)) ?_
          first | refine WL.val rfl (run_pickT rfl) ?_ | refine WL.val rfl (run_pickF rfl) ?_
          refine WL.nil ?_
          repeat (first | refine CW.seq ?_ | refine CW.block ?_ | refine CW.skip ?_ | refine CW.label ?_ | refine CW.exit ?_ | refine CW.condT rfl ?_ | refine CW.condF rfl ?_)
          refine CW.reg ?_
          refine WL.val rfl (run_assign) ?_
          refine WL.nil ?_
          repeat (first | refine CW.seq ?_ | refine CW.block ?_ | refine CW.skip ?_ | refine CW.label ?_ | refine CW.exit ?_ | refine CW.condT rfl ?_ | refine CW.condF rfl ?_)
          refine CW.ret ?_
          refine fin_ret1 rfl ?_
          exact ⟨congrArg (fun b => Ending.returned (.bool b)) e.symm, hs⟩
        · have e : specialL s = specialL (s.drop (i + 1)) := by rw [hgo, specialL, List.any_cons, decide_eq_false h1, decide_eq_false h2]; rfl
          repeat (first | refine CW.seq ?_ | refine CW.block ?_ | refine CW.skip ?_ | refine CW.label ?_ | refine CW.exit ?_ | refine CW.condT rfl ?_ | refine CW.condF rfl ?_)
          refine CW.reg ?_
          refine WL.val rfl (run_move) ?_
          refine WL.val rfl (run_move) ?_
          refine WL.val rfl (run_lenStr Tryd.underlying9 rfl) ?_
          refine WL.val rfl (run_bT (run_lss rfl rfl) (by omega)) ?_
          refine WL.nil ?_
          repeat (first | refine CW.seq ?_ | refine CW.block ?_ | refine CW.skip ?_ | refine CW.label ?_ | refine CW.exit ?_ | refine CW.condT rfl ?_ | refine CW.condF rfl ?_)
          refine CW.reg ?_
          refine WL.val rfl (run_move) ?_
          refine WL.val rfl (run_move) ?_
          refine WL.val rfl (run_strIdx Tryd.underlying9 rfl rfl (hc)) ?_
          refine WL.val rfl (run_bF (run_eql rfl rfl) (by (exact fun h => h1 (u8_42.1 h)))) ?_
          refine WL.val rfl (run_move) ?_
          first | (refine WL.yes rfl rfl rfl ?_; refine WL.val rfl (run_move) ?_) | refine WL.no rfl rfl rfl (.inl rfl) ?_ | refine WL.no rfl rfl rfl (.inr rfl) ?_
          first | (refine WL.yes rfl rfl rfl ?_; refine WL.val rfl (run_move) ?_) | refine WL.no rfl rfl rfl (.inl rfl) ?_ | refine WL.no rfl rfl rfl (.inr rfl) ?_
          refine WL.yes rfl rfl rfl ?_
          refine WL.val rfl (run_strIdx Tryd.underlying9 rfl rfl (hc)) ?_
          refine WL.yes rfl rfl rfl ?_
          refine WL.val rfl (run_bF (run_eql rfl rfl) (by (exact fun h => h2 (u8_63.1 h)))) ?_
          first | refine WL.val rfl (run_pickT rfl) ?_ | refine WL.val rfl (run_pickF rfl) ?_
          refine WL.nil ?_
          repeat (first | refine CW.seq ?_ | refine CW.block ?_ | refine CW.skip ?_ | refine CW.label ?_ | refine CW.exit ?_ | refine CW.condT rfl ?_ | refine CW.condF rfl ?_)
          refine CW.reg ?_
          refine WL.val rfl (run_move) ?_
          refine WL.val rfl (run_add (c := ((i + 1 : Nat) : Int)) rfl rfl (by omega) (by omega)) ?_
          refine WL.val rfl (run_assign) ?_
          refine WL.nil ?_
          repeat (first | refine CW.seq ?_ | refine CW.block ?_ | refine CW.skip ?_ | refine CW.label ?_ | refine CW.exit ?_)
          refine (show _ ∧ _ from ⟨rfl, _, ?_, i + 1, by omega, rfl, e, hs, rfl, rfl, trivial⟩)
          omega
    · rw [List.drop_eq_nil_of_le (by omega : s.length ≤ i)] at hgo
      repeat (first | refine CW.seq ?_ | refine CW.block ?_ | refine CW.skip ?_ | refine CW.label ?_ | refine CW.exit ?_ | refine CW.condT rfl ?_ | refine CW.condF rfl ?_)
      refine CW.reg ?_
      refine WL.val rfl (run_move) ?_
      refine WL.val rfl (run_move) ?_
      refine WL.val rfl (run_lenStr Tryd.underlying9 rfl) ?_
      refine WL.val rfl (run_bF (run_lss rfl rfl) (by omega)) ?_
      refine WL.nil ?_
      repeat (first | refine CW.seq ?_ | refine CW.block ?_ | refine CW.skip ?_ | refine CW.label ?_ | refine CW.exit ?_ | refine CW.condT rfl ?_ | refine CW.condF rfl ?_)
      refine CW.reg ?_
      refine WL.val rfl (run_assign) ?_
      refine WL.nil ?_
      repeat (first | refine CW.seq ?_ | refine CW.block ?_ | refine CW.skip ?_ | refine CW.label ?_ | refine CW.exit ?_ | refine CW.condT rfl ?_ | refine CW.condF rfl ?_)
      refine CW.ret ?_
      refine fin_ret1 rfl ?_
      exact ⟨congrArg (fun b => Ending.returned (.bool b)) hgo.symm, hs⟩
theorem special_no {s : List UInt8} (h : specialL s = false) : 42 ∉ s ∧ 63 ∉ s := by
  unfold specialL at h
  rw [List.any_eq_false] at h
  exact ⟨fun hm => by simpa using h 42 hm, fun hm => by simpa using h 63 hm⟩

attribute [local irreducible] starsL specialL
set_option maxHeartbeats 4000000 in
theorem pathPlain_spec {s t : List UInt8} (w0 : World) (hk : Knows) (hg : Gl w0) (hs1 : s.length ≤ 1048576) (ht1 : t.length ≤ 1048576) : Calls Tryd.prog 5 #[str s, str t] w0 (Ret0 (.bool true) w0) := by
  have hs : Step [] [] w0 w0 := Step.refl w0
  by_cases he : cleanE t = 0
  · have hobt := clean_good he
    obtain ⟨row, hnm, hl, hp⟩ := hobt
    have hobt := named_clean hnm hl
    obtain ⟨hq1, hq2⟩ := hobt
    have hql := clean_len hq1
    have cC := fun w (hg : Gl w) => clean_spec (s := t) w hg (by omega)
    simp only [he, hp] at cC
    have hobt : ∃ q, joinL row = q := ⟨_, rfl⟩
    obtain ⟨q, hq⟩ := hobt
    simp only [hq] at hq1 hq2 hql cC
    have cA := fun w (hg : Gl w) => match_spec (s := [42, 42]) (t := q) w hg (by simp) (by omega)
    simp only [match_all hq1] at cA
    have cN := fun w (hg : Gl w) => names_spec (s := q) w hg (by omega)
    simp only [hq2] at cN
    have cS := fun w (hg : Gl w) => match_spec (s := starsL row.length) (t := q) w hg (by have := stars_len row.length; omega) (by omega)
    simp only [match_stars (show row.length ≤ 1000 by omega) hq1, hq2, decide_eq_true (rfl : row.length = row.length)] at cS
    have hsl := stars_len row.length
    have cM := fun w (hg : Gl w) => match_spec (s := starsL row.length ++ [47, 42]) (t := q) w hg (by rw [List.length_append]; simp; omega) (by omega)
    have hmore : q ≠ [] → matchR (starsL row.length ++ [47, 42]) q = (false, 0) := fun hq0 => by
      have hr0 : 0 < row.length := by
        rcases Nat.eq_zero_or_pos row.length with h | h
        · exfalso
          apply hq0
          rw [← hq, List.eq_nil_of_length_eq_zero h]
          rfl
        · exact h
      have e : starsL row.length ++ [47, 42] = starsL (row.length + 1) := by
        rw [stars_succ, if_pos hr0, List.append_assoc]
        rfl
      rw [e, match_stars (by omega) hq1, hq2, decide_eq_false (by omega)]
    have cP := fun w (hg : Gl w) => match_spec (s := s) (t := q) w hg (by omega) (by omega)
    have hobt : ∃ mr, matchR (starsL row.length ++ [47, 42]) q = mr := ⟨_, rfl⟩
    obtain ⟨mr, hmr⟩ := hobt
    obtain ⟨m1, m2⟩ := mr
    simp only [hmr] at cM hmore
    have hobt : ∃ pr, matchR s q = pr := ⟨_, rfl⟩
    obtain ⟨pr, hpr⟩ := hobt
    obtain ⟨p1, p2⟩ := pr
    simp only [hpr] at cP
    have cX := fun w => special_spec (s := s) w (by omega)
    have hspc : specialL s = true ∨ specialL s = false := by cases specialL s <;> simp
    refine calls (n := 105) Tryd.func5 rfl rfl rfl ?_
    repeat (first | refine CW.seq ?_ | refine CW.block ?_ | refine CW.skip ?_ | refine CW.label ?_ | refine CW.exit ?_ | refine CW.condT rfl ?_ | refine CW.condF rfl ?_)
    refine CW.reg ?_
    refine WL.val rfl (run_assign) ?_
    refine WL.nil ?_
    repeat (first | refine CW.seq ?_ | refine CW.block ?_ | refine CW.skip ?_ | refine CW.label ?_ | refine CW.exit ?_ | refine CW.condT rfl ?_ | refine CW.condF rfl ?_)
    refine CW.reg ?_
    refine WL.enter rfl (run_call en11 rfl rfl) (hk _ hg) ?_
    rintro e w ⟨rfl, hq⟩
    refine ⟨_, rfl, ?_⟩
    replace hs := hs.callE hq
    first | refine WL.val rfl (run_notB rfl) ?_ | refine WL.val rfl (run_not rfl) ?_
    refine WL.nil ?_
    repeat (first | refine CW.seq ?_ | refine CW.block ?_ | refine CW.skip ?_ | refine CW.label ?_ | refine CW.exit ?_ | refine CW.condT rfl ?_ | refine CW.condF rfl ?_)
    refine CW.reg ?_
    refine WL.val rfl (run_move) ?_
    refine WL.enter rfl (run_call en12 rfl rfl) (cC _ (hg.step hs)) ?_
    rintro e w ⟨rfl, hq'⟩
    refine ⟨_, rfl, ?_⟩
    replace hs := hs.callE hq'
    refine WL.val rfl (run_move) ?_
    refine WL.val rfl (run_extract rfl rfl) ?_
    refine WL.val rfl (run_extract rfl rfl) ?_
    refine WL.val rfl (run_assign) ?_
    refine WL.val rfl (run_assign) ?_
    refine WL.nil ?_
    repeat (first | refine CW.seq ?_ | refine CW.block ?_ | refine CW.skip ?_ | refine CW.label ?_ | refine CW.exit ?_ | refine CW.condT rfl ?_ | refine CW.condF rfl ?_)
    refine CW.reg ?_
    refine WL.val rfl (run_move) ?_
    refine WL.val rfl (run_bF (run_neq rfl rfl) (by (exact fun h => h rfl))) ?_
    refine WL.nil ?_
    repeat (first | refine CW.seq ?_ | refine CW.block ?_ | refine CW.skip ?_ | refine CW.label ?_ | refine CW.exit ?_ | refine CW.condT rfl ?_ | refine CW.condF rfl ?_)
    refine CW.reg ?_
    refine WL.val rfl (run_move) ?_
    refine WL.enter rfl (run_call en18 rfl rfl) (cA _ (hg.step hs)) ?_
    rintro e w ⟨rfl, hq'⟩
    refine ⟨_, rfl, ?_⟩
    replace hs := hs.callE hq'
    refine WL.val rfl (run_move) ?_
    refine WL.val rfl (run_extract rfl rfl) ?_
    refine WL.val rfl (run_extract rfl rfl) ?_
    refine WL.val rfl (run_assign) ?_
    refine WL.val rfl (run_assign) ?_
    refine WL.nil ?_
    repeat (first | refine CW.seq ?_ | refine CW.block ?_ | refine CW.skip ?_ | refine CW.label ?_ | refine CW.exit ?_ | refine CW.condT rfl ?_ | refine CW.condF rfl ?_)
    refine CW.reg ?_
    refine WL.val rfl (run_move) ?_
    first | refine WL.val rfl (run_notB rfl) ?_ | refine WL.val rfl (run_not rfl) ?_
    refine WL.val rfl (run_move) ?_
    first | (refine WL.yes rfl rfl rfl ?_; refine WL.val rfl (run_move) ?_) | refine WL.no rfl rfl rfl (.inl rfl) ?_ | refine WL.no rfl rfl rfl (.inr rfl) ?_
    refine WL.yes rfl rfl rfl ?_
    refine WL.val rfl (run_bF (run_neq rfl rfl) (by (exact fun h => h rfl))) ?_
    first | refine WL.val rfl (run_pickT rfl) ?_ | refine WL.val rfl (run_pickF rfl) ?_
    refine WL.nil ?_
    repeat (first | refine CW.seq ?_ | refine CW.block ?_ | refine CW.skip ?_ | refine CW.label ?_ | refine CW.exit ?_ | refine CW.condT rfl ?_ | refine CW.condF rfl ?_)
    refine CW.reg ?_
    refine WL.val rfl (run_assign) ?_
    refine WL.nil ?_
    repeat (first | refine CW.seq ?_ | refine CW.block ?_ | refine CW.skip ?_ | refine CW.label ?_ | refine CW.exit ?_ | refine CW.condT rfl ?_ | refine CW.condF rfl ?_)
    refine CW.reg ?_
    refine WL.val rfl (run_move) ?_
    refine WL.enter rfl (run_call en20 rfl rfl) (cN _ (hg.step hs)) ?_
    rintro e w ⟨u0, Lu, rfl, hu0, hqs⟩
    refine ⟨_, rfl, ?_⟩
    have hxx := cellsOf hu0 hqs
    obtain ⟨a, c, hq3, hcl, hcx⟩ := hxx
    subst hq3
    replace hs := hs.call0 (hqs.dropR (L1 := []))
    refine WL.val rfl (run_move) ?_
    refine WL.val rfl (run_extract rfl rfl) ?_
    refine WL.val rfl (run_extract rfl rfl) ?_
    refine WL.val rfl (run_assign) ?_
    refine WL.val rfl (run_assign) ?_
    refine WL.nil ?_
    repeat (first | refine CW.seq ?_ | refine CW.block ?_ | refine CW.skip ?_ | refine CW.label ?_ | refine CW.exit ?_ | refine CW.condT rfl ?_ | refine CW.condF rfl ?_)
    refine CW.reg ?_
    refine WL.val rfl (run_move) ?_
    first | refine WL.val rfl (run_notB rfl) ?_ | refine WL.val rfl (run_not rfl) ?_
    refine WL.nil ?_
    repeat (first | refine CW.seq ?_ | refine CW.block ?_ | refine CW.skip ?_ | refine CW.label ?_ | refine CW.exit ?_ | refine CW.condT rfl ?_ | refine CW.condF rfl ?_)
    refine CW.reg ?_
    refine WL.val rfl (run_assign) ?_
    refine WL.nil ?_
    repeat (first | refine CW.seq ?_ | refine CW.block ?_ | refine CW.skip ?_ | refine CW.label ?_ | refine CW.exit ?_ | refine CW.condT rfl ?_ | refine CW.condF rfl ?_)
    refine CW.loop (fun m f w' => ∃ i, i ≤ row.length ∧ m = row.length - i ∧ Step [] [] w0 w' ∧ Holds f [(0, str s), (5, str q), (9, str (starsL i)), (10, .slice a row.length c), (12, .int .i64 i)]) (m := row.length) ?_ ?_
    · exact ⟨0, Nat.zero_le _, rfl, hs, rfl, rfl, congrArg str stars_zero.symm, rfl, rfl, trivial⟩
    · clear hs
      rintro m f w ⟨i, hi, rfl, hs, hf⟩
      have hobt := hf.chain
      obtain ⟨g, rfl⟩ := hobt
      have hsi := stars_len i
      by_cases hlt : i < row.length
      · have hsu := stars_succ i
        by_cases h0 : 0 < i
        · rw [if_pos h0] at hsu
          repeat (first | refine CW.seq ?_ | refine CW.block ?_ | refine CW.skip ?_ | refine CW.label ?_ | refine CW.exit ?_ | refine CW.condT rfl ?_ | refine CW.condF rfl ?_)
          refine CW.reg ?_
          refine WL.val rfl (run_move) ?_
          refine WL.val rfl (run_move) ?_
          refine WL.val rfl (run_lenSl Tryd.underlying34 rfl) ?_
          refine WL.val rfl (run_bT (run_lss rfl rfl) (by omega)) ?_
          refine WL.nil ?_
          repeat (first | refine CW.seq ?_ | refine CW.block ?_ | refine CW.skip ?_ | refine CW.label ?_ | refine CW.exit ?_ | refine CW.condT rfl ?_ | refine CW.condF rfl ?_)
          refine CW.reg ?_
          refine WL.val rfl (run_move) ?_
          refine WL.val rfl (run_bT (run_gtr rfl rfl) (by omega)) ?_
          refine WL.nil ?_
          repeat (first | refine CW.seq ?_ | refine CW.block ?_ | refine CW.skip ?_ | refine CW.label ?_ | refine CW.exit ?_ | refine CW.condT rfl ?_ | refine CW.condF rfl ?_)
          refine CW.reg ?_
          refine WL.val rfl (run_move) ?_
          refine WL.val rfl (run_strAdd rfl rfl ((show (starsL i).length + 1 ≤ 9223372036854775807 by omega))) ?_
          refine WL.val rfl (run_assign) ?_
          refine WL.nil ?_
          repeat (first | refine CW.seq ?_ | refine CW.block ?_ | refine CW.skip ?_ | refine CW.label ?_ | refine CW.exit ?_ | refine CW.condT rfl ?_ | refine CW.condF rfl ?_)
          refine CW.reg ?_
          refine WL.val rfl (run_move) ?_
          refine WL.val rfl (run_strAdd rfl rfl ((show (starsL i ++ [47]).length + 1 ≤ 9223372036854775807 by rw [List.length_append]; simp; omega))) ?_
          refine WL.val rfl (run_assign) ?_
          refine WL.nil ?_
          repeat (first | refine CW.seq ?_ | refine CW.block ?_ | refine CW.skip ?_ | refine CW.label ?_ | refine CW.exit ?_ | refine CW.condT rfl ?_ | refine CW.condF rfl ?_)
          refine CW.reg ?_
          refine WL.val rfl (run_move) ?_
          refine WL.val rfl (run_add (c := ((i + 1 : Nat) : Int)) rfl rfl (by omega) (by omega)) ?_
          refine WL.val rfl (run_assign) ?_
          refine WL.nil ?_
          repeat (first | refine CW.seq ?_ | refine CW.block ?_ | refine CW.skip ?_ | refine CW.label ?_ | refine CW.exit ?_)
          refine (show _ ∧ _ from ⟨rfl, _, ?_, i + 1, by omega, rfl, hs, rfl, rfl, by rw [hsu]; rfl, rfl, rfl, trivial⟩)
          omega
        · rw [if_neg h0] at hsu
          repeat (first | refine CW.seq ?_ | refine CW.block ?_ | refine CW.skip ?_ | refine CW.label ?_ | refine CW.exit ?_ | refine CW.condT rfl ?_ | refine CW.condF rfl ?_)
          refine CW.reg ?_
          refine WL.val rfl (run_move) ?_
          refine WL.val rfl (run_move) ?_
          refine WL.val rfl (run_lenSl Tryd.underlying34 rfl) ?_
          refine WL.val rfl (run_bT (run_lss rfl rfl) (by omega)) ?_
          refine WL.nil ?_
          repeat (first | refine CW.seq ?_ | refine CW.block ?_ | refine CW.skip ?_ | refine CW.label ?_ | refine CW.exit ?_ | refine CW.condT rfl ?_ | refine CW.condF rfl ?_)
          refine CW.reg ?_
          refine WL.val rfl (run_move) ?_
          refine WL.val rfl (run_bF (run_gtr rfl rfl) (by omega)) ?_
          refine WL.nil ?_
          repeat (first | refine CW.seq ?_ | refine CW.block ?_ | refine CW.skip ?_ | refine CW.label ?_ | refine CW.exit ?_ | refine CW.condT rfl ?_ | refine CW.condF rfl ?_)
          refine CW.reg ?_
          refine WL.val rfl (run_move) ?_
          refine WL.val rfl (run_strAdd rfl rfl ((show (starsL i).length + 1 ≤ 9223372036854775807 by omega))) ?_
          refine WL.val rfl (run_assign) ?_
          refine WL.nil ?_
          repeat (first | refine CW.seq ?_ | refine CW.block ?_ | refine CW.skip ?_ | refine CW.label ?_ | refine CW.exit ?_ | refine CW.condT rfl ?_ | refine CW.condF rfl ?_)
          refine CW.reg ?_
          refine WL.val rfl (run_move) ?_
          refine WL.val rfl (run_add (c := ((i + 1 : Nat) : Int)) rfl rfl (by omega) (by omega)) ?_
          refine WL.val rfl (run_assign) ?_
          refine WL.nil ?_
          repeat (first | refine CW.seq ?_ | refine CW.block ?_ | refine CW.skip ?_ | refine CW.label ?_ | refine CW.exit ?_)
          refine (show _ ∧ _ from ⟨rfl, _, ?_, i + 1, by omega, rfl, hs, rfl, rfl, by rw [hsu]; rfl, rfl, rfl, trivial⟩)
          omega
      · obtain rfl : i = row.length := by omega
        by_cases hq0 : q = []
        · repeat (first | refine CW.seq ?_ | refine CW.block ?_ | refine CW.skip ?_ | refine CW.label ?_ | refine CW.exit ?_ | refine CW.condT rfl ?_ | refine CW.condF rfl ?_)
          refine CW.reg ?_
          refine WL.val rfl (run_move) ?_
          refine WL.val rfl (run_move) ?_
          refine WL.val rfl (run_lenSl Tryd.underlying34 rfl) ?_
          refine WL.val rfl (run_bF (run_lss rfl rfl) (by omega)) ?_
          refine WL.nil ?_
          repeat (first | refine CW.seq ?_ | refine CW.block ?_ | refine CW.skip ?_ | refine CW.label ?_ | refine CW.exit ?_ | refine CW.condT rfl ?_ | refine CW.condF rfl ?_)
          refine CW.reg ?_
          refine WL.val rfl (run_move) ?_
          refine WL.val rfl (run_move) ?_
          refine WL.enter rfl (run_call en18 rfl rfl) (cS _ (hg.step hs)) ?_
          rintro e w ⟨rfl, hq'⟩
          refine ⟨_, rfl, ?_⟩
          replace hs := hs.callE hq'
          refine WL.val rfl (run_move) ?_
          refine WL.val rfl (run_extract rfl rfl) ?_
          refine WL.val rfl (run_extract rfl rfl) ?_
          refine WL.val rfl (run_assign) ?_
          refine WL.val rfl (run_assign) ?_
          refine WL.nil ?_
          repeat (first | refine CW.seq ?_ | refine CW.block ?_ | refine CW.skip ?_ | refine CW.label ?_ | refine CW.exit ?_ | refine CW.condT rfl ?_ | refine CW.condF rfl ?_)
          refine CW.reg ?_
          refine WL.val rfl (run_move) ?_
          first | refine WL.val rfl (run_notB rfl) ?_ | refine WL.val rfl (run_not rfl) ?_
          refine WL.val rfl (run_move) ?_
          first | (refine WL.yes rfl rfl rfl ?_; refine WL.val rfl (run_move) ?_) | refine WL.no rfl rfl rfl (.inl rfl) ?_ | refine WL.no rfl rfl rfl (.inr rfl) ?_
          refine WL.yes rfl rfl rfl ?_
          refine WL.val rfl (run_bF (run_neq rfl rfl) (by (exact fun h => h rfl))) ?_
          first | refine WL.val rfl (run_pickT rfl) ?_ | refine WL.val rfl (run_pickF rfl) ?_
          refine WL.nil ?_
          repeat (first | refine CW.seq ?_ | refine CW.block ?_ | refine CW.skip ?_ | refine CW.label ?_ | refine CW.exit ?_ | refine CW.condT rfl ?_ | refine CW.condF rfl ?_)
          refine CW.reg ?_
          refine WL.val rfl (run_move) ?_
          refine WL.val rfl (run_strAdd rfl rfl ((show (starsL row.length).length + 2 ≤ 9223372036854775807 by omega))) ?_
          refine WL.val rfl (run_move) ?_
          refine WL.enter rfl (run_call en18 rfl rfl) (cM _ (hg.step hs)) ?_
          rintro e w ⟨rfl, hq'⟩
          refine ⟨_, rfl, ?_⟩
          replace hs := hs.callE hq'
          refine WL.val rfl (run_move) ?_
          refine WL.val rfl (run_extract rfl rfl) ?_
          refine WL.val rfl (run_extract rfl rfl) ?_
          refine WL.val rfl (run_assign) ?_
          refine WL.val rfl (run_assign) ?_
          refine WL.nil ?_
          repeat (first | refine CW.seq ?_ | refine CW.block ?_ | refine CW.skip ?_ | refine CW.label ?_ | refine CW.exit ?_ | refine CW.condT rfl ?_ | refine CW.condF rfl ?_)
          refine CW.reg ?_
          refine WL.val rfl (run_move) ?_
          refine WL.val rfl (run_bF (run_strNe rfl rfl) (by (exact fun h => h hq0))) ?_
          refine WL.val rfl (run_move) ?_
          first | (refine WL.yes rfl rfl rfl ?_; refine WL.val rfl (run_move) ?_) | refine WL.no rfl rfl rfl (.inl rfl) ?_ | refine WL.no rfl rfl rfl (.inr rfl) ?_
          first | (refine WL.yes rfl rfl rfl ?_; refine WL.val rfl (run_move) ?_) | refine WL.no rfl rfl rfl (.inl rfl) ?_ | refine WL.no rfl rfl rfl (.inr rfl) ?_
          first | (refine WL.yes rfl rfl rfl ?_; refine WL.val rfl (run_move) ?_) | refine WL.no rfl rfl rfl (.inl rfl) ?_ | refine WL.no rfl rfl rfl (.inr rfl) ?_
          first | (refine WL.yes rfl rfl rfl ?_; refine WL.val rfl (run_neq rfl rfl) ?_) | refine WL.no rfl rfl rfl (.inl rfl) ?_ | refine WL.no rfl rfl rfl (.inr rfl) ?_
          first | (refine WL.yes rfl rfl rfl ?_; (first | refine WL.val rfl (run_pickT rfl) ?_ | refine WL.val rfl (run_pickF rfl) ?_)) | refine WL.no rfl rfl rfl (.inl rfl) ?_ | refine WL.no rfl rfl rfl (.inr rfl) ?_
          first | refine WL.val rfl (run_pickT rfl) ?_ | refine WL.val rfl (run_pickF rfl) ?_
          refine WL.nil ?_
          repeat (first | refine CW.seq ?_ | refine CW.block ?_ | refine CW.skip ?_ | refine CW.label ?_ | refine CW.exit ?_ | refine CW.condT rfl ?_ | refine CW.condF rfl ?_)
          refine CW.reg ?_
          refine WL.val rfl (run_move) ?_
          refine WL.val rfl (run_move) ?_
          refine WL.enter rfl (run_call en18 rfl rfl) (cP _ (hg.step hs)) ?_
          rintro e w ⟨rfl, hq'⟩
          refine ⟨_, rfl, ?_⟩
          replace hs := hs.callE hq'
          refine WL.val rfl (run_move) ?_
          refine WL.val rfl (run_extract rfl rfl) ?_
          refine WL.val rfl (run_extract rfl rfl) ?_
          refine WL.val rfl (run_assign) ?_
          refine WL.val rfl (run_assign) ?_
          refine WL.nil ?_
          rcases hspc with hsp | hsp
          · simp only [hsp] at cX
            repeat (first | refine CW.seq ?_ | refine CW.block ?_ | refine CW.skip ?_ | refine CW.label ?_ | refine CW.exit ?_ | refine CW.condT rfl ?_ | refine CW.condF rfl ?_)
            refine CW.reg ?_
            refine WL.val rfl (run_move) ?_
            refine WL.enter rfl (run_call en21 rfl rfl) (cX _) ?_
            rintro e w ⟨rfl, hq⟩
            refine ⟨_, rfl, ?_⟩
            replace hs := hs.callE hq
            refine WL.val rfl (run_move) ?_
            first | (refine WL.yes rfl rfl rfl ?_; refine WL.val rfl (run_move) ?_) | refine WL.no rfl rfl rfl (.inl rfl) ?_ | refine WL.no rfl rfl rfl (.inr rfl) ?_
            first | (refine WL.yes rfl rfl rfl ?_; refine WL.val rfl (run_neq rfl rfl) ?_) | refine WL.no rfl rfl rfl (.inl rfl) ?_ | refine WL.no rfl rfl rfl (.inr rfl) ?_
            first | refine WL.val rfl (run_pickT rfl) ?_ | refine WL.val rfl (run_pickF rfl) ?_
            refine WL.val rfl (run_move) ?_
            first | (refine WL.yes rfl rfl rfl ?_; refine WL.val rfl (run_move) ?_) | refine WL.no rfl rfl rfl (.inl rfl) ?_ | refine WL.no rfl rfl rfl (.inr rfl) ?_
            first | (refine WL.yes rfl rfl rfl ?_; refine WL.val rfl (run_move) ?_) | refine WL.no rfl rfl rfl (.inl rfl) ?_ | refine WL.no rfl rfl rfl (.inr rfl) ?_
            first | (refine WL.yes rfl rfl rfl ?_; refine WL.val rfl (run_move) ?_) | refine WL.no rfl rfl rfl (.inl rfl) ?_ | refine WL.no rfl rfl rfl (.inr rfl) ?_
            first | (refine WL.yes rfl rfl rfl ?_; refine WL.val rfl (run_strEq rfl rfl) ?_) | refine WL.no rfl rfl rfl (.inl rfl) ?_ | refine WL.no rfl rfl rfl (.inr rfl) ?_
            first | (refine WL.yes rfl rfl rfl ?_; refine WL.val rfl (run_eqlB Tryd.underlying4 rfl rfl) ?_) | refine WL.no rfl rfl rfl (.inl rfl) ?_ | refine WL.no rfl rfl rfl (.inr rfl) ?_
            first | refine WL.val rfl (run_pickT rfl) ?_ | refine WL.val rfl (run_pickF rfl) ?_
            refine WL.val rfl (run_assign) ?_
            refine WL.nil ?_
            repeat (first | refine CW.seq ?_ | refine CW.block ?_ | refine CW.skip ?_ | refine CW.label ?_ | refine CW.exit ?_ | refine CW.condT rfl ?_ | refine CW.condF rfl ?_)
            refine CW.ret ?_
            refine fin_ret1 rfl ?_
            exact ⟨rfl, hs⟩
          · simp only [hsp] at cX
            by_cases hj : p2 = 0
            · have hobt := special_no hsp
              obtain ⟨hn1, hn2⟩ := hobt
              have hb : p1 = decide (s = q) := (match_zero (s := s) (q := q) (by rw [hpr, hj])).trans (matchM_plain hn1 hn2)
              repeat (first | refine CW.seq ?_ | refine CW.block ?_ | refine CW.skip ?_ | refine CW.label ?_ | refine CW.exit ?_ | refine CW.condT rfl ?_ | refine CW.condF rfl ?_)
              refine CW.reg ?_
              refine WL.val rfl (run_move) ?_
              refine WL.enter rfl (run_call en21 rfl rfl) (cX _) ?_
              rintro e w ⟨rfl, hq⟩
              refine ⟨_, rfl, ?_⟩
              replace hs := hs.callE hq
              refine WL.val rfl (run_move) ?_
              first | (refine WL.yes rfl rfl rfl ?_; refine WL.val rfl (run_move) ?_) | refine WL.no rfl rfl rfl (.inl rfl) ?_ | refine WL.no rfl rfl rfl (.inr rfl) ?_
              refine WL.yes rfl rfl rfl ?_
              refine WL.val rfl (run_bF (run_neq rfl rfl) (by (exact fun h => h hj))) ?_
              first | refine WL.val rfl (run_pickT rfl) ?_ | refine WL.val rfl (run_pickF rfl) ?_
              refine WL.val rfl (run_move) ?_
              first | (refine WL.yes rfl rfl rfl ?_; refine WL.val rfl (run_move) ?_) | refine WL.no rfl rfl rfl (.inl rfl) ?_ | refine WL.no rfl rfl rfl (.inr rfl) ?_
              first | (refine WL.yes rfl rfl rfl ?_; refine WL.val rfl (run_move) ?_) | refine WL.no rfl rfl rfl (.inl rfl) ?_ | refine WL.no rfl rfl rfl (.inr rfl) ?_
              first | (refine WL.yes rfl rfl rfl ?_; refine WL.val rfl (run_move) ?_) | refine WL.no rfl rfl rfl (.inl rfl) ?_ | refine WL.no rfl rfl rfl (.inr rfl) ?_
              first | (refine WL.yes rfl rfl rfl ?_; refine WL.val rfl (run_strEq rfl rfl) ?_) | refine WL.no rfl rfl rfl (.inl rfl) ?_ | refine WL.no rfl rfl rfl (.inr rfl) ?_
              refine WL.yes rfl rfl rfl ?_
              refine WL.val rfl (run_bE (run_eqlB Tryd.underlying4 rfl rfl) (show (p1 == decide (s = q)) = true by rw [hb]; simp)) ?_
              first | refine WL.val rfl (run_pickT rfl) ?_ | refine WL.val rfl (run_pickF rfl) ?_
              refine WL.val rfl (run_assign) ?_
              refine WL.nil ?_
              repeat (first | refine CW.seq ?_ | refine CW.block ?_ | refine CW.skip ?_ | refine CW.label ?_ | refine CW.exit ?_ | refine CW.condT rfl ?_ | refine CW.condF rfl ?_)
              refine CW.ret ?_
              refine fin_ret1 rfl ?_
              exact ⟨rfl, hs⟩
            · repeat (first | refine CW.seq ?_ | refine CW.block ?_ | refine CW.skip ?_ | refine CW.label ?_ | refine CW.exit ?_ | refine CW.condT rfl ?_ | refine CW.condF rfl ?_)
              refine CW.reg ?_
              refine WL.val rfl (run_move) ?_
              refine WL.enter rfl (run_call en21 rfl rfl) (cX _) ?_
              rintro e w ⟨rfl, hq⟩
              refine ⟨_, rfl, ?_⟩
              replace hs := hs.callE hq
              refine WL.val rfl (run_move) ?_
              first | (refine WL.yes rfl rfl rfl ?_; refine WL.val rfl (run_move) ?_) | refine WL.no rfl rfl rfl (.inl rfl) ?_ | refine WL.no rfl rfl rfl (.inr rfl) ?_
              refine WL.yes rfl rfl rfl ?_
              refine WL.val rfl (run_bT (run_neq rfl rfl) (by exact hj)) ?_
              first | refine WL.val rfl (run_pickT rfl) ?_ | refine WL.val rfl (run_pickF rfl) ?_
              refine WL.val rfl (run_move) ?_
              first | (refine WL.yes rfl rfl rfl ?_; refine WL.val rfl (run_move) ?_) | refine WL.no rfl rfl rfl (.inl rfl) ?_ | refine WL.no rfl rfl rfl (.inr rfl) ?_
              first | (refine WL.yes rfl rfl rfl ?_; refine WL.val rfl (run_move) ?_) | refine WL.no rfl rfl rfl (.inl rfl) ?_ | refine WL.no rfl rfl rfl (.inr rfl) ?_
              first | (refine WL.yes rfl rfl rfl ?_; refine WL.val rfl (run_move) ?_) | refine WL.no rfl rfl rfl (.inl rfl) ?_ | refine WL.no rfl rfl rfl (.inr rfl) ?_
              first | (refine WL.yes rfl rfl rfl ?_; refine WL.val rfl (run_strEq rfl rfl) ?_) | refine WL.no rfl rfl rfl (.inl rfl) ?_ | refine WL.no rfl rfl rfl (.inr rfl) ?_
              first | (refine WL.yes rfl rfl rfl ?_; refine WL.val rfl (run_eqlB Tryd.underlying4 rfl rfl) ?_) | refine WL.no rfl rfl rfl (.inl rfl) ?_ | refine WL.no rfl rfl rfl (.inr rfl) ?_
              first | refine WL.val rfl (run_pickT rfl) ?_ | refine WL.val rfl (run_pickF rfl) ?_
              refine WL.val rfl (run_assign) ?_
              refine WL.nil ?_
              repeat (first | refine CW.seq ?_ | refine CW.block ?_ | refine CW.skip ?_ | refine CW.label ?_ | refine CW.exit ?_ | refine CW.condT rfl ?_ | refine CW.condF rfl ?_)
              refine CW.ret ?_
              refine fin_ret1 rfl ?_
              exact ⟨rfl, hs⟩
        · have hmm := hmore hq0
          cases hmm
          repeat (first | refine CW.seq ?_ | refine CW.block ?_ | refine CW.skip ?_ | refine CW.label ?_ | refine CW.exit ?_ | refine CW.condT rfl ?_ | refine CW.condF rfl ?_)
          refine CW.reg ?_
          refine WL.val rfl (run_move) ?_
          refine WL.val rfl (run_move) ?_
          refine WL.val rfl (run_lenSl Tryd.underlying34 rfl) ?_
          refine WL.val rfl (run_bF (run_lss rfl rfl) (by omega)) ?_
          refine WL.nil ?_
          repeat (first | refine CW.seq ?_ | refine CW.block ?_ | refine CW.skip ?_ | refine CW.label ?_ | refine CW.exit ?_ | refine CW.condT rfl ?_ | refine CW.condF rfl ?_)
          refine CW.reg ?_
          refine WL.val rfl (run_move) ?_
          refine WL.val rfl (run_move) ?_
          refine WL.enter rfl (run_call en18 rfl rfl) (cS _ (hg.step hs)) ?_
          rintro e w ⟨rfl, hq'⟩
          refine ⟨_, rfl, ?_⟩
          replace hs := hs.callE hq'
          refine WL.val rfl (run_move) ?_
          refine WL.val rfl (run_extract rfl rfl) ?_
          refine WL.val rfl (run_extract rfl rfl) ?_
          refine WL.val rfl (run_assign) ?_
          refine WL.val rfl (run_assign) ?_
          refine WL.nil ?_
          repeat (first | refine CW.seq ?_ | refine CW.block ?_ | refine CW.skip ?_ | refine CW.label ?_ | refine CW.exit ?_ | refine CW.condT rfl ?_ | refine CW.condF rfl ?_)
          refine CW.reg ?_
          refine WL.val rfl (run_move) ?_
          first | refine WL.val rfl (run_notB rfl) ?_ | refine WL.val rfl (run_not rfl) ?_
          refine WL.val rfl (run_move) ?_
          first | (refine WL.yes rfl rfl rfl ?_; refine WL.val rfl (run_move) ?_) | refine WL.no rfl rfl rfl (.inl rfl) ?_ | refine WL.no rfl rfl rfl (.inr rfl) ?_
          refine WL.yes rfl rfl rfl ?_
          refine WL.val rfl (run_bF (run_neq rfl rfl) (by (exact fun h => h rfl))) ?_
          first | refine WL.val rfl (run_pickT rfl) ?_ | refine WL.val rfl (run_pickF rfl) ?_
          refine WL.nil ?_
          repeat (first | refine CW.seq ?_ | refine CW.block ?_ | refine CW.skip ?_ | refine CW.label ?_ | refine CW.exit ?_ | refine CW.condT rfl ?_ | refine CW.condF rfl ?_)
          refine CW.reg ?_
          refine WL.val rfl (run_move) ?_
          refine WL.val rfl (run_strAdd rfl rfl ((show (starsL row.length).length + 2 ≤ 9223372036854775807 by omega))) ?_
          refine WL.val rfl (run_move) ?_
          refine WL.enter rfl (run_call en18 rfl rfl) (cM _ (hg.step hs)) ?_
          rintro e w ⟨rfl, hq'⟩
          refine ⟨_, rfl, ?_⟩
          replace hs := hs.callE hq'
          refine WL.val rfl (run_move) ?_
          refine WL.val rfl (run_extract rfl rfl) ?_
          refine WL.val rfl (run_extract rfl rfl) ?_
          refine WL.val rfl (run_assign) ?_
          refine WL.val rfl (run_assign) ?_
          refine WL.nil ?_
          repeat (first | refine CW.seq ?_ | refine CW.block ?_ | refine CW.skip ?_ | refine CW.label ?_ | refine CW.exit ?_ | refine CW.condT rfl ?_ | refine CW.condF rfl ?_)
          refine CW.reg ?_
          refine WL.val rfl (run_move) ?_
          refine WL.val rfl (run_bT (run_strNe rfl rfl) (by exact hq0)) ?_
          refine WL.val rfl (run_move) ?_
          first | (refine WL.yes rfl rfl rfl ?_; refine WL.val rfl (run_move) ?_) | refine WL.no rfl rfl rfl (.inl rfl) ?_ | refine WL.no rfl rfl rfl (.inr rfl) ?_
          first | (refine WL.yes rfl rfl rfl ?_; refine WL.val rfl (run_move) ?_) | refine WL.no rfl rfl rfl (.inl rfl) ?_ | refine WL.no rfl rfl rfl (.inr rfl) ?_
          first | (refine WL.yes rfl rfl rfl ?_; refine WL.val rfl (run_move) ?_) | refine WL.no rfl rfl rfl (.inl rfl) ?_ | refine WL.no rfl rfl rfl (.inr rfl) ?_
          refine WL.yes rfl rfl rfl ?_
          refine WL.val rfl (run_bF (run_neq rfl rfl) (by (exact fun h => h rfl))) ?_
          first | (refine WL.yes rfl rfl rfl ?_; (first | refine WL.val rfl (run_pickT rfl) ?_ | refine WL.val rfl (run_pickF rfl) ?_)) | refine WL.no rfl rfl rfl (.inl rfl) ?_ | refine WL.no rfl rfl rfl (.inr rfl) ?_
          first | refine WL.val rfl (run_pickT rfl) ?_ | refine WL.val rfl (run_pickF rfl) ?_
          refine WL.nil ?_
          repeat (first | refine CW.seq ?_ | refine CW.block ?_ | refine CW.skip ?_ | refine CW.label ?_ | refine CW.exit ?_ | refine CW.condT rfl ?_ | refine CW.condF rfl ?_)
          refine CW.reg ?_
          refine WL.val rfl (run_move) ?_
          refine WL.val rfl (run_move) ?_
          refine WL.enter rfl (run_call en18 rfl rfl) (cP _ (hg.step hs)) ?_
          rintro e w ⟨rfl, hq'⟩
          refine ⟨_, rfl, ?_⟩
          replace hs := hs.callE hq'
          refine WL.val rfl (run_move) ?_
          refine WL.val rfl (run_extract rfl rfl) ?_
          refine WL.val rfl (run_extract rfl rfl) ?_
          refine WL.val rfl (run_assign) ?_
          refine WL.val rfl (run_assign) ?_
          refine WL.nil ?_
          rcases hspc with hsp | hsp
          · simp only [hsp] at cX
            repeat (first | refine CW.seq ?_ | refine CW.block ?_ | refine CW.skip ?_ | refine CW.label ?_ | refine CW.exit ?_ | refine CW.condT rfl ?_ | refine CW.condF rfl ?_)
            refine CW.reg ?_
            refine WL.val rfl (run_move) ?_
            refine WL.enter rfl (run_call en21 rfl rfl) (cX _) ?_
            rintro e w ⟨rfl, hq⟩
            refine ⟨_, rfl, ?_⟩
            replace hs := hs.callE hq
            refine WL.val rfl (run_move) ?_
            first | (refine WL.yes rfl rfl rfl ?_; refine WL.val rfl (run_move) ?_) | refine WL.no rfl rfl rfl (.inl rfl) ?_ | refine WL.no rfl rfl rfl (.inr rfl) ?_
            first | (refine WL.yes rfl rfl rfl ?_; refine WL.val rfl (run_neq rfl rfl) ?_) | refine WL.no rfl rfl rfl (.inl rfl) ?_ | refine WL.no rfl rfl rfl (.inr rfl) ?_
            first | refine WL.val rfl (run_pickT rfl) ?_ | refine WL.val rfl (run_pickF rfl) ?_
            refine WL.val rfl (run_move) ?_
            first | (refine WL.yes rfl rfl rfl ?_; refine WL.val rfl (run_move) ?_) | refine WL.no rfl rfl rfl (.inl rfl) ?_ | refine WL.no rfl rfl rfl (.inr rfl) ?_
            first | (refine WL.yes rfl rfl rfl ?_; refine WL.val rfl (run_move) ?_) | refine WL.no rfl rfl rfl (.inl rfl) ?_ | refine WL.no rfl rfl rfl (.inr rfl) ?_
            first | (refine WL.yes rfl rfl rfl ?_; refine WL.val rfl (run_move) ?_) | refine WL.no rfl rfl rfl (.inl rfl) ?_ | refine WL.no rfl rfl rfl (.inr rfl) ?_
            first | (refine WL.yes rfl rfl rfl ?_; refine WL.val rfl (run_strEq rfl rfl) ?_) | refine WL.no rfl rfl rfl (.inl rfl) ?_ | refine WL.no rfl rfl rfl (.inr rfl) ?_
            first | (refine WL.yes rfl rfl rfl ?_; refine WL.val rfl (run_eqlB Tryd.underlying4 rfl rfl) ?_) | refine WL.no rfl rfl rfl (.inl rfl) ?_ | refine WL.no rfl rfl rfl (.inr rfl) ?_
            first | refine WL.val rfl (run_pickT rfl) ?_ | refine WL.val rfl (run_pickF rfl) ?_
            refine WL.val rfl (run_assign) ?_
            refine WL.nil ?_
            repeat (first | refine CW.seq ?_ | refine CW.block ?_ | refine CW.skip ?_ | refine CW.label ?_ | refine CW.exit ?_ | refine CW.condT rfl ?_ | refine CW.condF rfl ?_)
            refine CW.ret ?_
            refine fin_ret1 rfl ?_
            exact ⟨rfl, hs⟩
          · simp only [hsp] at cX
            by_cases hj : p2 = 0
            · have hobt := special_no hsp
              obtain ⟨hn1, hn2⟩ := hobt
              have hb : p1 = decide (s = q) := (match_zero (s := s) (q := q) (by rw [hpr, hj])).trans (matchM_plain hn1 hn2)
              repeat (first | refine CW.seq ?_ | refine CW.block ?_ | refine CW.skip ?_ | refine CW.label ?_ | refine CW.exit ?_ | refine CW.condT rfl ?_ | refine CW.condF rfl ?_)
              refine CW.reg ?_
              refine WL.val rfl (run_move) ?_
              refine WL.enter rfl (run_call en21 rfl rfl) (cX _) ?_
              rintro e w ⟨rfl, hq⟩
              refine ⟨_, rfl, ?_⟩
              replace hs := hs.callE hq
              refine WL.val rfl (run_move) ?_
              first | (refine WL.yes rfl rfl rfl ?_; refine WL.val rfl (run_move) ?_) | refine WL.no rfl rfl rfl (.inl rfl) ?_ | refine WL.no rfl rfl rfl (.inr rfl) ?_
              refine WL.yes rfl rfl rfl ?_
              refine WL.val rfl (run_bF (run_neq rfl rfl) (by (exact fun h => h hj))) ?_
              first | refine WL.val rfl (run_pickT rfl) ?_ | refine WL.val rfl (run_pickF rfl) ?_
              refine WL.val rfl (run_move) ?_
              first | (refine WL.yes rfl rfl rfl ?_; refine WL.val rfl (run_move) ?_) | refine WL.no rfl rfl rfl (.inl rfl) ?_ | refine WL.no rfl rfl rfl (.inr rfl) ?_
              first | (refine WL.yes rfl rfl rfl ?_; refine WL.val rfl (run_move) ?_) | refine WL.no rfl rfl rfl (.inl rfl) ?_ | refine WL.no rfl rfl rfl (.inr rfl) ?_
              first | (refine WL.yes rfl rfl rfl ?_; refine WL.val rfl (run_move) ?_) | refine WL.no rfl rfl rfl (.inl rfl) ?_ | refine WL.no rfl rfl rfl (.inr rfl) ?_
              first | (refine WL.yes rfl rfl rfl ?_; refine WL.val rfl (run_strEq rfl rfl) ?_) | refine WL.no rfl rfl rfl (.inl rfl) ?_ | refine WL.no rfl rfl rfl (.inr rfl) ?_
              refine WL.yes rfl rfl rfl ?_
              refine WL.val rfl (run_bE (run_eqlB Tryd.underlying4 rfl rfl) (show (p1 == decide (s = q)) = true by rw [hb]; simp)) ?_
              first | refine WL.val rfl (run_pickT rfl) ?_ | refine WL.val rfl (run_pickF rfl) ?_
              refine WL.val rfl (run_assign) ?_
              refine WL.nil ?_
              repeat (first | refine CW.seq ?_ | refine CW.block ?_ | refine CW.skip ?_ | refine CW.label ?_ | refine CW.exit ?_ | refine CW.condT rfl ?_ | refine CW.condF rfl ?_)
              refine CW.ret ?_
              refine fin_ret1 rfl ?_
              exact ⟨rfl, hs⟩
            · repeat (first | refine CW.seq ?_ | refine CW.block ?_ | refine CW.skip ?_ | refine CW.label ?_ | refine CW.exit ?_ | refine CW.condT rfl ?_ | refine CW.condF rfl ?_)
              refine CW.reg ?_
              refine WL.val rfl (run_move) ?_
              refine WL.enter rfl (run_call en21 rfl rfl) (cX _) ?_
              rintro e w ⟨rfl, hq⟩
              refine ⟨_, rfl, ?_⟩
              replace hs := hs.callE hq
              refine WL.val rfl (run_move) ?_
              first | (refine WL.yes rfl rfl rfl ?_; refine WL.val rfl (run_move) ?_) | refine WL.no rfl rfl rfl (.inl rfl) ?_ | refine WL.no rfl rfl rfl (.inr rfl) ?_
              refine WL.yes rfl rfl rfl ?_
              refine WL.val rfl (run_bT (run_neq rfl rfl) (by exact hj)) ?_
              first | refine WL.val rfl (run_pickT rfl) ?_ | refine WL.val rfl (run_pickF rfl) ?_
              refine WL.val rfl (run_move) ?_
              first | (refine WL.yes rfl rfl rfl ?_; refine WL.val rfl (run_move) ?_) | refine WL.no rfl rfl rfl (.inl rfl) ?_ | refine WL.no rfl rfl rfl (.inr rfl) ?_
              first | (refine WL.yes rfl rfl rfl ?_; refine WL.val rfl (run_move) ?_) | refine WL.no rfl rfl rfl (.inl rfl) ?_ | refine WL.no rfl rfl rfl (.inr rfl) ?_
              first | (refine WL.yes rfl rfl rfl ?_; refine WL.val rfl (run_move) ?_) | refine WL.no rfl rfl rfl (.inl rfl) ?_ | refine WL.no rfl rfl rfl (.inr rfl) ?_
              first | (refine WL.yes rfl rfl rfl ?_; refine WL.val rfl (run_strEq rfl rfl) ?_) | refine WL.no rfl rfl rfl (.inl rfl) ?_ | refine WL.no rfl rfl rfl (.inr rfl) ?_
              first | (refine WL.yes rfl rfl rfl ?_; refine WL.val rfl (run_eqlB Tryd.underlying4 rfl rfl) ?_) | refine WL.no rfl rfl rfl (.inl rfl) ?_ | refine WL.no rfl rfl rfl (.inr rfl) ?_
              first | refine WL.val rfl (run_pickT rfl) ?_ | refine WL.val rfl (run_pickF rfl) ?_
              refine WL.val rfl (run_assign) ?_
              refine WL.nil ?_
              repeat (first | refine CW.seq ?_ | refine CW.block ?_ | refine CW.skip ?_ | refine CW.label ?_ | refine CW.exit ?_ | refine CW.condT rfl ?_ | refine CW.condF rfl ?_)
              refine CW.ret ?_
              refine fin_ret1 rfl ?_
              exact ⟨rfl, hs⟩
  · have hc := clean_bad he
    have cS := fun w (hg : Gl w) => clean_spec (s := t) w hg (by omega)
    simp only [hc] at cS
    refine calls (n := 105) Tryd.func5 rfl rfl rfl ?_
    repeat (first | refine CW.seq ?_ | refine CW.block ?_ | refine CW.skip ?_ | refine CW.label ?_ | refine CW.exit ?_ | refine CW.condT rfl ?_ | refine CW.condF rfl ?_)
    refine CW.reg ?_
    refine WL.val rfl (run_assign) ?_
    refine WL.nil ?_
    repeat (first | refine CW.seq ?_ | refine CW.block ?_ | refine CW.skip ?_ | refine CW.label ?_ | refine CW.exit ?_ | refine CW.condT rfl ?_ | refine CW.condF rfl ?_)
    refine CW.reg ?_
    refine WL.enter rfl (run_call en11 rfl rfl) (hk _ hg) ?_
    rintro e w ⟨rfl, hq⟩
    refine ⟨_, rfl, ?_⟩
    replace hs := hs.callE hq
    first | refine WL.val rfl (run_notB rfl) ?_ | refine WL.val rfl (run_not rfl) ?_
    refine WL.nil ?_
    repeat (first | refine CW.seq ?_ | refine CW.block ?_ | refine CW.skip ?_ | refine CW.label ?_ | refine CW.exit ?_ | refine CW.condT rfl ?_ | refine CW.condF rfl ?_)
    refine CW.reg ?_
    refine WL.val rfl (run_move) ?_
    refine WL.enter rfl (run_call en12 rfl rfl) (cS _ (hg.step hs)) ?_
    rintro e w ⟨rfl, hq⟩
    refine ⟨_, rfl, ?_⟩
    replace hs := hs.callE hq
    refine WL.val rfl (run_move) ?_
    refine WL.val rfl (run_extract rfl rfl) ?_
    refine WL.val rfl (run_extract rfl rfl) ?_
    refine WL.val rfl (run_assign) ?_
    refine WL.val rfl (run_assign) ?_
    refine WL.nil ?_
    repeat (first | refine CW.seq ?_ | refine CW.block ?_ | refine CW.skip ?_ | refine CW.label ?_ | refine CW.exit ?_ | refine CW.condT rfl ?_ | refine CW.condF rfl ?_)
    refine CW.reg ?_
    refine WL.val rfl (run_move) ?_
    refine WL.val rfl (run_bT (run_neq rfl rfl) (by exact he)) ?_
    refine WL.nil ?_
    repeat (first | refine CW.seq ?_ | refine CW.block ?_ | refine CW.skip ?_ | refine CW.label ?_ | refine CW.exit ?_ | refine CW.condT rfl ?_ | refine CW.condF rfl ?_)
    refine CW.reg ?_
    refine WL.val rfl (run_assign) ?_
    refine WL.nil ?_
    repeat (first | refine CW.seq ?_ | refine CW.block ?_ | refine CW.skip ?_ | refine CW.label ?_ | refine CW.exit ?_ | refine CW.condT rfl ?_ | refine CW.condF rfl ?_)
    refine CW.ret ?_
    refine fin_ret1 rfl ?_
    exact ⟨rfl, hs⟩
end Go.Gx
