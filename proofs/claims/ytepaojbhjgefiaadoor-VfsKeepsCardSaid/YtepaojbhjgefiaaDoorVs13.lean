/- Files in memory: what is missing on a way can be made, in this order. No program in sight. -/
import Derived.Test.YtepaojbhjgefiaaDoorVs12
namespace Go.Gx
open Go.Proofs
set_option linter.unusedVariables false
set_option linter.unusedSimpArgs false
theorem upsF_word : ∀ {x pre : List UInt8}, 47 ∉ x → upsF pre x = []
  | [], _, _ => rfl
  | c :: x, pre, h => by
    rw [upsF, if_neg (fun e => h (by simp [e])), upsF_word (fun hm => h (List.mem_cons_of_mem _ hm))]
theorem upsF_app : ∀ {x pre t : List UInt8}, 47 ∉ x → upsF pre (x ++ 47 :: t) = (pre ++ x) :: upsF (pre ++ x ++ [47]) t
  | [], pre, t, _ => by simp [upsF]
  | c :: x, pre, t, h => by
    rw [List.cons_append, upsF, if_neg (fun e => h (by simp [e])), upsF_app (fun hm => h (List.mem_cons_of_mem _ hm))]
    simp
def upsR : List (List UInt8) → List (List UInt8) → List (List UInt8)
  | done, x :: y :: l => joinL (done ++ [x]) :: upsR (done ++ [x]) (y :: l)
  | _, _ => []
theorem ups_join : ∀ (l done : List (List UInt8)) (pre : List UInt8), (∀ x ∈ l, 47 ∉ x) → (∀ x, joinL (done ++ [x]) = pre ++ x) → upsF pre (joinL l) = upsR done l
  | [], done, pre, _, _ => by simp [joinL, List.intercalate, upsF, upsR]
  | [x], done, pre, h, _ => by rw [joinL_one, upsF_word (h x (by simp)), upsR]; intros; simp_all
  | x :: y :: l, done, pre, h, hp => by
    rw [joinL_cons (by simp), upsF_app (h x (by simp)), upsR, hp, ups_join (y :: l) (done ++ [x]) (pre ++ x ++ [47]) (fun z hz => h z (List.mem_cons_of_mem _ hz)) (fun z => by
      rw [joinL_snoc, if_pos (by simp), hp])]
def Chain : List UInt8 → List (List UInt8) → Prop
  | _, [] => True
  | prev, u :: l => (splitR u).1 = prev ∧ prev.length < u.length ∧ Chain u l
theorem splitR_join {r : List (List UInt8)} {x : List UInt8} (h : Named (r ++ [x])) (hl : (r ++ [x]).length ≤ 32) : splitR (joinL (r ++ [x])) = (joinL r, x, 0) := by
  have hobt := named_clean h hl
  obtain ⟨h1, h2⟩ := hobt
  unfold splitR
  rw [h1, h2, if_neg (by simp), if_neg (by simp)]
  simp
theorem ups_chain : ∀ (l done : List (List UInt8)), Named (done ++ l) → (done ++ l).length ≤ 32 → Chain (joinL done) (upsR done l)
  | [], _, _, _ => trivial
  | [_], _, _, _ => trivial
  | x :: y :: l, done, hn, hl => by
    have e : done ++ x :: y :: l = (done ++ [x]) ++ y :: l := by simp
    rw [e] at hn hl
    have hn1 : Named (done ++ [x]) := fun p hp => hn p (List.mem_append_left _ hp)
    have hl1 : (done ++ [x]).length ≤ 32 := by
      rw [List.length_append] at hl
      omega
    have hx := isName_facts (hn1 x (by simp))
    refine ⟨by rw [splitR_join hn1 hl1], ?_, ups_chain (y :: l) (done ++ [x]) hn hl⟩
    rw [joinL_snoc]
    have := List.length_pos_iff.2 hx.1
    split <;> simp only [List.length_append, List.length_cons, List.length_nil] <;> omega
theorem ups_last : ∀ (l done : List (List UInt8)), l ≠ [] → ((upsR done l).getLast?).getD (joinL done) = joinL (done ++ l).dropLast
  | [], _, h => absurd rfl h
  | [x], done, _ => by simp [upsR]
  | x :: y :: l, done, _ => by
    have ih := ups_last (y :: l) (done ++ [x]) (by simp)
    rw [upsR, List.getLast?_cons, Option.getD_some, ih]
    simp
theorem chain_longer : ∀ {l : List (List UInt8)} {prev u : List UInt8}, Chain prev l → u ∈ l → prev.length < u.length
  | [], _, _, _, h => by cases h
  | a :: l, prev, u, h, hu => by
    obtain ⟨_, h2, h3⟩ := h
    rcases List.mem_cons.1 hu with h4 | h4
    · rw [h4]; exact h2
    · exact Nat.lt_trans h2 (chain_longer h3 h4)
/-- These directories may be made, one after the other. -/
def Made : VS → List (List UInt8) → Prop
  | _, [] => True
  | s, d :: l => (s.dir (splitR d).1).isSome ∧ s.dir d = none ∧ Made (s.addDir d) l
theorem dir_bump (s : VS) (j : Nat) (u : List UInt8) : (s.bump j).dir u = s.dir u := by
  have hg : ∀ (l : List (List UInt8 × Nat)) (j : Nat), (l.modify j fun e => (e.1, e.2 + 1)).findIdx? (fun e : List UInt8 × Nat => decide (e.1 = u)) = l.findIdx? (fun e => decide (e.1 = u)) := by
    intro l
    induction l with
    | nil => intro j; simp
    | cons a l ih =>
      intro j
      cases j with
      | zero => simp [List.findIdx?_cons]
      | succ j => simp [List.findIdx?_cons, ih j]
  exact hg s.D j
theorem dir_addDir {s : VS} {d u : List UInt8} (h : (s.dir (splitR d).1).isSome) : (s.addDir d).dir u = if (s.dir u).isSome then s.dir u else if d = u then some s.D.length else none := by
  have hobt := Option.isSome_iff_exists.1 h
  obtain ⟨j, hj⟩ := hobt
  have e : s.addDir d = { s.bump j with D := (s.bump j).D ++ [(d, 0)] } := by unfold VS.addDir; rw [hj]
  have e2 : (s.addDir d).dir u = ((s.bump j).D ++ [(d, 0)]).findIdx? (fun e : List UInt8 × Nat => decide (e.1 = u)) := by rw [e]; rfl
  have e3 : (s.bump j).D.findIdx? (fun e : List UInt8 × Nat => decide (e.1 = u)) = s.dir u := dir_bump s j u
  have e4 : (s.bump j).D.length = s.D.length := by simp [VS.bump]
  rw [e2, List.findIdx?_append, e3, e4]
  cases hu : s.dir u with
  | some i => simp
  | none => by_cases hd : d = u <;> simp [List.findIdx?_cons, hd]
theorem file_addDir (s : VS) (d u : List UInt8) : (s.addDir d).file u = s.file u := by
  unfold VS.addDir
  split <;> rfl
theorem way_ok {s : VS} {mend : Bool} : ∀ {l acc M : List (List UInt8)}, s.way mend l acc = (M, 0) → M = acc ++ l.filter (fun u => (s.dir u).isNone)
  | [], acc, M, h => by
    rw [VS.way] at h
    cases h
    simp
  | u :: l, acc, M, h => by
    rw [VS.way] at h
    split at h
    · cases h
    · split at h
      · rename_i h1 h2
        have h3 : (s.dir u).isNone = false := by cases hd : s.dir u <;> simp_all
        rw [way_ok h, List.filter_cons, h3]
        simp
      · split at h
        · cases h
        · rename_i h1 h2 h3
          have h4 : (s.dir u).isNone = true := by cases hd : s.dir u <;> simp_all
          rw [way_ok h, List.filter_cons, h4]
          simp
theorem way_err {s : VS} {mend : Bool} : ∀ {l acc M : List (List UInt8)} {e : Int}, s.way mend l acc = (M, e) → e = 0 ∨ M = []
  | [], acc, M, e, h => by
    rw [VS.way] at h
    cases h
    exact .inl rfl
  | u :: l, acc, M, e, h => by
    rw [VS.way] at h
    split at h
    · cases h; exact .inr rfl
    · split at h
      · exact way_err h
      · split at h
        · cases h; exact .inr rfl
        · exact way_err h
theorem made_chain {s : VS} : ∀ {l : List (List UInt8)} {prev : List UInt8} {s' : VS}, Chain prev l → (s'.dir prev).isSome → (∀ u ∈ l, (s'.dir u).isNone = (s.dir u).isNone) →
    Made s' (l.filter fun u => (s.dir u).isNone) ∧ (((l.filter fun u => (s.dir u).isNone).foldl VS.addDir s').dir ((l.getLast?).getD prev)).isSome
  | [], prev, s', _, h2, _ => ⟨trivial, h2⟩
  | u :: l, prev, s', h1, h2, h3 => by
    obtain ⟨c1, c2, c3⟩ := h1
    rw [List.getLast?_cons, Option.getD_some, List.filter_cons]
    cases hu : (s.dir u).isNone with
    | false =>
      rw [if_neg (by simp)]
      have h4 := h3 u (by simp)
      rw [hu] at h4
      refine made_chain c3 ?_ fun x hx => h3 x (List.mem_cons_of_mem _ hx)
      cases hd : s'.dir u <;> simp_all
    | true =>
      rw [if_pos rfl]
      have h4 := h3 u (by simp)
      rw [hu] at h4
      have hn : s'.dir u = none := by cases hd : s'.dir u <;> simp_all
      have hp : (s'.dir (splitR u).1).isSome := by rw [c1]; exact h2
      have hthis : ((s'.addDir u).dir u).isSome := by
        rw [dir_addDir hp, hn]
        simp
      have hrest : ∀ x ∈ l, ((s'.addDir u).dir x).isNone = (s.dir x).isNone := fun x hx => by
        rw [← h3 x (List.mem_cons_of_mem _ hx), dir_addDir hp]
        have hlt := chain_longer c3 hx
        have hne : u ≠ x := fun e => by rw [e] at hlt; omega
        rw [if_neg hne]
        cases hd : s'.dir x <;> simp
      have hobt := made_chain (s := s) c3 hthis hrest
      obtain ⟨m1, m2⟩ := hobt
      exact ⟨⟨hp, hn, m1⟩, by rw [List.foldl_cons]; exact m2⟩
/-- Behind a way that went well, what is missing can be made, and then the path's directory stands. -/
theorem way_made {s : VS} {mend : Bool} {q : List UInt8} {M : List (List UInt8)} (hq : isCleanL q = true) (hne : q ≠ []) (hroot : (s.dir []).isSome) (hw : s.way mend (upsF [] q) [] = (M, 0)) :
    Made s M ∧ ((M.foldl VS.addDir s).dir (splitR q).1).isSome := by
  have hobt := clean_named hq
  obtain ⟨h1, h2⟩ := hobt
  have hrow : partsL q ≠ [] := fun e => hne (partsL_nil e)
  have e1 : upsF [] q = upsR [] (partsL q) := by
    have := ups_join (partsL q) [] [] (fun x hx => isName_slash (h1 x hx)) (fun x => by simp [joinL_one])
    rw [joinL_partsL] at this
    exact this
  have hc := ups_chain (partsL q) [] (by simpa using h1) (by simpa using h2)
  have hl := ups_last (partsL q) [] hrow
  have hj0 : joinL [] = [] := rfl
  rw [hj0] at hc hl
  rw [List.nil_append] at hl
  have hM := way_ok hw
  rw [e1, List.nil_append] at hM
  have := made_chain (s := s) (s' := s) hc hroot (fun u hu => rfl)
  rw [← hM, hl] at this
  refine ⟨this.1, ?_⟩
  have e2 : (splitR q).1 = joinL (partsL q).dropLast := by
    unfold splitR
    rw [hq, if_neg (by simp), if_neg hrow]
  rw [e2]
  exact this.2
/-- The first that is missing has its directory. -/
theorem way_first {s : VS} {mend : Bool} {q : List UInt8} {M : List (List UInt8)} (hq : isCleanL q = true) (hne : q ≠ []) (hroot : (s.dir []).isSome) (hw : s.way mend (upsF [] q) [] = (M, 0)) : (s.dir (splitR (firstL q M)).1).isSome := by
  have hobt := way_made hq hne hroot hw
  obtain ⟨h1, h2⟩ := hobt
  cases M with
  | nil => exact h2
  | cons d l => exact h1.1
end Go.Gx
