/- IsClean: the program's, the document's, and that they agree. -/
import Derived.Test.YtepaojbhjgefiaaDoorPClean4
namespace Go.Gx
open Go.Proofs Go.RowKit
set_option linter.unusedVariables false
set_option linter.unusedSimpArgs false
set_option maxRecDepth 100000

def isCleanL (s : List UInt8) : Bool := (partsL s).all isName && decide ((partsL s).length ≤ 32)

theorem joinL_cons {x : List UInt8} {l : List (List UInt8)} (h : l ≠ []) : joinL (x :: l) = x ++ 47 :: joinL l := by
  cases l with
  | nil => exact absurd rfl h
  | cons y l => simp [joinL, List.intercalate, List.intersperse]
theorem joinL_one (x : List UInt8) : joinL [x] = x := by simp [joinL, List.intercalate]
theorem joinL_cc {c : UInt8} {p : List UInt8} {ps : List (List UInt8)} : joinL ((c :: p) :: ps) = c :: joinL (p :: ps) := by
  cases ps with
  | nil => rw [joinL_one, joinL_one]
  | cons y l => rw [joinL_cons (x := c :: p) (l := y :: l) (by simp), joinL_cons (x := p) (l := y :: l) (by simp)]; rfl
theorem joinL_splitL : ∀ s, joinL (splitL s) = s
  | [] => by rw [splitL, joinL_one]
  | c :: s => by
    have ih := joinL_splitL s
    rw [splitL]
    split
    · rename_i h
      rw [joinL_cons (splitL_ne s), ih, h]
      rfl
    · split
      · rename_i h
        exact absurd h (splitL_ne s)
      · rename_i p ps h
        rw [h] at ih
        rw [joinL_cc, ih]
theorem joinL_partsL (s : List UInt8) : joinL (partsL s) = s := by
  unfold partsL
  split
  · rename_i h; rw [h]; rfl
  · exact joinL_splitL s
theorem splitL_word : ∀ {p : List UInt8}, 47 ∉ p → splitL p = [p]
  | [], _ => rfl
  | c :: p, h => by
    have h1 : c ≠ 47 := fun e => h (by simp [e])
    rw [splitL, if_neg h1, splitL_word (p := p) (fun e => h (by simp [e]))]
theorem splitL_app : ∀ {p s : List UInt8}, 47 ∉ p → splitL (p ++ 47 :: s) = p :: splitL s
  | [], s, _ => by rw [List.nil_append, splitL, if_pos rfl]
  | c :: p, s, h => by
    have h1 : c ≠ 47 := fun e => h (by simp [e])
    rw [List.cons_append, splitL, if_neg h1, splitL_app (p := p) (fun e => h (by simp [e]))]
theorem isName_slash {p : List UInt8} (h : isName p = true) : 47 ∉ p := fun hm => by
  simp only [isName, Bool.and_eq_true, Bool.not_eq_true'] at h
  have := List.any_eq_true.2 ⟨47, hm, (by decide : badCh 47 = true)⟩
  rw [h.2] at this
  cases this
theorem isName_facts {p : List UInt8} (h : isName p = true) : p ≠ [] ∧ p ≠ [46] ∧ p ≠ [46, 46] := by
  simp only [isName, Bool.and_eq_true, decide_eq_true_eq] at h
  refine ⟨fun e => ?_, h.1.2.2.1, h.1.2.2.2⟩
  rw [e] at h
  simp at h
theorem splitL_joinL : ∀ {row : List (List UInt8)}, row ≠ [] → Named row → splitL (joinL row) = row
  | [x], _, h => by rw [joinL_one, splitL_word (isName_slash (h x (by simp)))]
  | x :: y :: l, _, h => by
    rw [joinL_cons (by simp), splitL_app (isName_slash (h x (by simp))), splitL_joinL (row := y :: l) (by simp) (fun p hp => h p (by simp at hp ⊢; exact .inr hp))]
theorem partsL_joinL {row : List (List UInt8)} (h : Named row) : partsL (joinL row) = row := by
  cases row with
  | nil => rfl
  | cons x l =>
    have hx := isName_facts (h x (by simp))
    have hne : joinL (x :: l) ≠ [] := by
      cases l with
      | nil => rw [joinL_one]; exact hx.1
      | cons y l => rw [joinL_cons (by simp)]; simp
    unfold partsL
    rw [if_neg hne]
    exact splitL_joinL (by simp) h
theorem cleanGo_id : ∀ {ps row : List (List UInt8)}, Named ps → cleanGo ps row = .ok (row ++ ps)
  | [], row, _ => by rw [cleanGo, List.append_nil]
  | p :: ps, row, h => by
    have h1 := h p (by simp)
    have hx := isName_facts h1
    rw [cleanGo, if_neg (fun e => e.elim hx.1 hx.2.1), if_neg hx.2.2, if_neg (by simp [h1]), cleanGo_id (fun q hq => h q (by simp [hq])), List.append_assoc]
    rfl
theorem cleanGo_named : ∀ {ps row r : List (List UInt8)}, Named row → cleanGo ps row = .ok r → Named r
  | [], row, r, h, e => by
    rw [cleanGo] at e
    cases e
    exact h
  | p :: ps, row, r, h, e => by
    rw [cleanGo] at e
    split at e
    · exact cleanGo_named h e
    · split at e
      · split at e
        · cases e
        · exact cleanGo_named (fun q hq => h q (List.dropLast_subset _ hq)) e
      · split at e
        · cases e
        · rename_i h4
          refine cleanGo_named (fun q hq => ?_) e
          rcases List.mem_append.1 hq with h' | h'
          · exact h q h'
          · rw [List.mem_singleton.1 h']; simpa using h4
theorem cleanGo_err : ∀ {ps row : List (List UInt8)} {e : Int}, cleanGo ps row = .error e → e ≠ 0
  | [], row, e, h => by rw [cleanGo] at h; cases h
  | p :: ps, row, e, h => by
    rw [cleanGo] at h
    split at h
    · exact cleanGo_err h
    · split at h
      · split at h
        · cases h; decide
        · exact cleanGo_err h
      · split at h
        · cases h; decide
        · exact cleanGo_err h
theorem clean_law (s : List UInt8) : (decide (cleanE s = 0) && decide (cleanS s = s)) = isCleanL s := by
  rw [Bool.eq_iff_iff]
  simp only [isCleanL, Bool.and_eq_true, decide_eq_true_eq, List.all_eq_true]
  constructor
  · rintro ⟨h1, h2⟩
    unfold cleanE cleanS cleanR at *
    split at h1
    · rename_i p hp
      rw [hp] at h2
      dsimp only at h2
      split at hp
      · cases hp
      · split at hp
        · cases hp
        · rename_i row hrow
          split at hp
          · cases hp
          · cases hp
            have hn := cleanGo_named (fun q hq => by cases hq) hrow
            have hp2 := partsL_joinL hn
            rw [h2] at hp2
            rw [hp2]
            exact ⟨hn, by omega⟩
    · rename_i e hp
      exfalso
      split at hp
      · cases hp; cases h1
      · split at hp
        · rename_i e' he
          cases hp
          exact absurd h1 (cleanGo_err he)
        · split at hp
          · cases hp; cases h1
          · cases hp
  · rintro ⟨h1, h2⟩
    have hn : Named (partsL s) := h1
    have hgo := cleanGo_id (row := []) hn
    rw [List.nil_append] at hgo
    have hj := joinL_partsL s
    have hl : s.length ≤ 4096 := by
      have a1 := join_len (partsL s)
      have a2 := named_join hn
      rw [hj] at a1
      omega
    have hc : cleanR s = .ok s := by
      unfold cleanR
      rw [if_neg (by omega), hgo]
      show (if 32 < (partsL s).length then _ else _) = _
      rw [if_neg (by omega), hj]
    have := clean_ok hc
    exact ⟨this.2, this.1⟩
end Go.Gx
