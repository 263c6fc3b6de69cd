/- A row that goes through another: the greedy walk and the table agree with the plain words. No program in sight. -/
import Derived.Test.YtnoamfcnamlbhaaDoorPMatch2
namespace Go.Gx
set_option linter.unusedVariables false
set_option linter.unusedSimpArgs false
section goes
variable {α : Type} (any : α → Bool) (of : α → α → Bool)

/-- A row goes through another: one of it takes any number, each other one takes one that is of it. -/
def goesM : List α → List α → Bool
  | [], [] => true
  | [], _ :: _ => false
  | x :: r, [] => any x && goesM r []
  | x :: r, y :: t => if any x then goesM r (y :: t) || goesM (x :: r) t else of x y && goesM r t
termination_by r t => r.length + t.length

variable {any of}
theorem goesM_any {x : α} (h : any x = true) (r t : List α) : goesM any of (x :: r) t = (goesM any of r t || (!t.isEmpty && goesM any of (x :: r) t.tail)) := by
  cases t with
  | nil => rw [goesM]; simp [h]
  | cons y t => rw [goesM, if_pos h]; simp
theorem goesM_cc {x : α} (h : any x = true) (r : List α) (y : α) (t : List α) : goesM any of (x :: r) (y :: t) = (goesM any of r (y :: t) || goesM any of (x :: r) t) := by rw [goesM, if_pos h]
theorem goesM_cn (x : α) (r : List α) : goesM any of (x :: r) [] = (any x && goesM any of r []) := by rw [goesM]
theorem goesM_nil_cons {y : α} {t : List α} : goesM any of [] (y :: t) = false := by rw [goesM]
theorem goesM_one {x : α} (h : any x = false) (r : List α) (y : α) (t : List α) : goesM any of (x :: r) (y :: t) = (of x y && goesM any of r t) := by
  rw [goesM, if_neg (by simp [h])]
theorem goesM_one_nil {x : α} (h : any x = false) (r : List α) : goesM any of (x :: r) [] = false := by rw [goesM, h, Bool.false_and]
theorem goesM_nil : goesM any of [] [] = true := by rw [goesM]

theorem goesM_more {x : α} (h : any x = true) (r t : List α) (ht : goesM any of (x :: r) t.tail = true) : goesM any of (x :: r) t = true := by
  rw [goesM_any h]
  cases t with
  | nil => rw [goesM_any h] at ht; simpa using ht
  | cons y t => simp only [List.tail_cons] at ht; simp [ht]
theorem goesM_drop {x : α} (h : any x = true) (r t : List α) : ∀ (k j : Nat), k ≤ j → goesM any of (x :: r) (t.drop j) = true → goesM any of (x :: r) (t.drop k) = true := by
  intro k j hkj
  induction hkj with
  | refl => exact id
  | step hkj ih => exact fun hj => ih (goesM_more h _ _ (by rw [List.tail_drop]; exact hj))
theorem goesM_skip {x : α} (h : any x = true) (r : List α) : ∀ (mid t : List α), (∀ y ∈ mid, any y = false) → goesM any of (mid ++ x :: r) t = true → goesM any of (x :: r) (t.drop mid.length) = true
  | [], t, _, ht => by simpa using ht
  | m :: mid, [], hm, ht => by
    rw [List.cons_append, goesM_one_nil (hm m (by simp))] at ht
    cases ht
  | m :: mid, y :: t, hm, ht => by
    rw [List.cons_append, goesM_one (hm m (by simp)), Bool.and_eq_true] at ht
    simpa using goesM_skip h r mid t (fun y hy => hm y (by simp [hy])) ht.2
theorem goesM_skipA {x s : α} (hs : any s = true) (h : any x = true) (r mid : List α) (hm : ∀ y ∈ mid, any y = false) : ∀ (t : List α), goesM any of (s :: (mid ++ x :: r)) t = true → goesM any of (x :: r) (t.drop mid.length) = true
  | [], ht => by
    rw [goesM_any hs] at ht
    simp only [List.isEmpty_nil, Bool.not_true, Bool.false_and, Bool.or_false] at ht
    exact goesM_skip h r mid [] hm ht
  | y :: t, ht => by
    rw [goesM_any hs, Bool.or_eq_true] at ht
    rcases ht with ht | ht
    · exact goesM_skip h r mid _ hm ht
    · simp only [List.isEmpty_cons, Bool.not_false, Bool.true_and, List.tail_cons] at ht
      have := goesM_skipA hs h r mid hm t ht
      exact goesM_drop h r (y :: t) mid.length (mid.length + 1) (by omega) (by simpa using this)

variable (any of) in
/-- What holds at a round's head: no star yet, or the last star and what it has taken. -/
def GoesInv (r t : List α) (i k star back : Nat) : Prop :=
  if star = 0 then back = 0 ∧ goesM any of r t = goesM any of (r.drop i) (t.drop k)
  else ∃ s, r[star - 1]? = some s ∧ any s = true ∧ star ≤ i ∧ back ≤ t.length ∧ k = back + (i - star) ∧ (∀ y ∈ (r.drop star).take (i - star), any y = false) ∧
    goesM any of r t = goesM any of (r.drop (star - 1)) (t.drop back) ∧
    (goesM any of (r.drop (star - 1)) (t.drop back) = (goesM any of (r.drop i) (t.drop k) || (decide (back < t.length) && goesM any of (r.drop (star - 1)) (t.drop (back + 1)))))

theorem goes0 (r t : List α) : GoesInv any of r t 0 0 0 0 := by
  rw [GoesInv, if_pos rfl]
  exact ⟨rfl, rfl⟩
theorem isEmpty_drop (t : List α) (k : Nat) : (!(t.drop k).isEmpty) = decide (k < t.length) := by
  by_cases h : k < t.length
  · rw [List.drop_eq_getElem_cons h]; simp [h]
  · rw [List.drop_eq_nil_of_le (by omega)]; simp [h]
/-- A star is found. -/
theorem goes_star {r t : List α} {i k star back : Nat} (h : GoesInv any of r t i k star back) (hk : k ≤ t.length) {s : α} (hi : r[i]? = some s) (hs : any s = true) : GoesInv any of r t (i + 1) k (i + 1) k := by
  have hlt : i < r.length := (List.getElem?_eq_some_iff.1 hi).1
  have hri : r.drop i = s :: r.drop (i + 1) := by rw [List.drop_eq_getElem_cons hlt, (List.getElem?_eq_some_iff.1 hi).2]
  have hgo : goesM any of r t = goesM any of (r.drop i) (t.drop k) := by
    rw [GoesInv] at h
    split at h
    · exact h.2
    · rename_i h0
      obtain ⟨s0, h1, h2, h3, h4, h5, h6, h7, h8⟩ := h
      have hlt0 : star - 1 < r.length := (List.getElem?_eq_some_iff.1 h1).1
      have hr0 : r.drop (star - 1) = s0 :: ((r.drop star).take (i - star) ++ s :: r.drop (i + 1)) := by
        rw [List.drop_eq_getElem_cons hlt0, (List.getElem?_eq_some_iff.1 h1).2, ← hri]
        congr 1
        rw [show star - 1 + 1 = star by omega]
        have : r.drop i = (r.drop star).drop (i - star) := by rw [List.drop_drop]; congr 1; omega
        rw [this, List.take_append_drop]
      have hl : ((r.drop star).take (i - star)).length = i - star := by rw [List.length_take, List.length_drop]; omega
      rw [h7]
      apply Bool.eq_iff_iff.2
      constructor
      · intro hh
        rw [hr0] at hh
        have := goesM_skipA h2 hs _ _ h6 _ hh
        rw [hl, List.drop_drop, ← h5] at this
        rw [hri]
        exact this
      · intro hh
        rw [h8, hh, Bool.true_or]
  rw [GoesInv, if_neg (by omega)]
  refine ⟨s, by simpa using hi, hs, by omega, hk, by omega, by simp, by simpa using hgo, ?_⟩
  simp only [Nat.add_sub_cancel]
  rw [hri, goesM_any hs, isEmpty_drop, List.tail_drop]
/-- One for one. -/
theorem goes_step {r t : List α} {i k star back : Nat} (h : GoesInv any of r t i k star back) {s y : α} (hi : r[i]? = some s) (hk : t[k]? = some y) (hs : any s = false) (ho : of s y = true) : GoesInv any of r t (i + 1) (k + 1) star back := by
  have hlt : i < r.length := (List.getElem?_eq_some_iff.1 hi).1
  have hri : r.drop i = s :: r.drop (i + 1) := by rw [List.drop_eq_getElem_cons hlt, (List.getElem?_eq_some_iff.1 hi).2]
  have hlk : k < t.length := (List.getElem?_eq_some_iff.1 hk).1
  have htk : t.drop k = y :: t.drop (k + 1) := by rw [List.drop_eq_getElem_cons hlk, (List.getElem?_eq_some_iff.1 hk).2]
  have e : goesM any of (r.drop i) (t.drop k) = goesM any of (r.drop (i + 1)) (t.drop (k + 1)) := by rw [hri, htk, goesM_one hs, ho, Bool.true_and]
  rw [GoesInv] at h ⊢
  split at h
  · rename_i h0
    rw [if_pos h0]
    exact ⟨h.1, h.2.trans e⟩
  · rename_i h0
    rw [if_neg h0]
    obtain ⟨s0, h1, h2, h3, h4, h5, h6, h7, h8⟩ := h
    refine ⟨s0, h1, h2, by omega, h4, by omega, ?_, h7, by rw [h8, e]⟩
    rw [show i + 1 - star = (i - star) + 1 by omega, List.take_succ_eq_append_getElem (by rw [List.length_drop]; omega)]
    intro z hz
    rw [List.mem_append] at hz
    rcases hz with hz | hz
    · exact h6 z hz
    · rw [List.mem_singleton, List.getElem_drop] at hz
      subst hz
      have : r[star + (i - star)]? = some s := by rw [show star + (i - star) = i by omega]; exact hi
      rw [(List.getElem?_eq_some_iff.1 this).2]
      exact hs
/-- The heads do not go through one another. -/
def Stuck (any : α → Bool) (of : α → α → Bool) (r t : List α) (i k : Nat) : Prop := goesM any of (r.drop i) (t.drop k) = false
theorem stuck_end {r t : List α} {i k : Nat} (hi : r.length ≤ i) (hk : k < t.length) : Stuck any of r t i k := by
  rw [Stuck, List.drop_eq_nil_of_le hi, List.drop_eq_getElem_cons hk, goesM_nil_cons]
theorem stuck_none {r t : List α} {i k : Nat} {s : α} (hi : r[i]? = some s) (hs : any s = false) (hk : t.length ≤ k) : Stuck any of r t i k := by
  have hlt : i < r.length := (List.getElem?_eq_some_iff.1 hi).1
  have hri : r.drop i = s :: r.drop (i + 1) := by rw [List.drop_eq_getElem_cons hlt, (List.getElem?_eq_some_iff.1 hi).2]
  rw [Stuck, hri, List.drop_eq_nil_of_le hk, goesM_one_nil hs]
theorem stuck_not {r t : List α} {i k : Nat} {s y : α} (hi : r[i]? = some s) (hs : any s = false) (hk : t[k]? = some y) (ho : of s y = false) : Stuck any of r t i k := by
  have hlt : i < r.length := (List.getElem?_eq_some_iff.1 hi).1
  have hri : r.drop i = s :: r.drop (i + 1) := by rw [List.drop_eq_getElem_cons hlt, (List.getElem?_eq_some_iff.1 hi).2]
  have hlk : k < t.length := (List.getElem?_eq_some_iff.1 hk).1
  have htk : t.drop k = y :: t.drop (k + 1) := by rw [List.drop_eq_getElem_cons hlk, (List.getElem?_eq_some_iff.1 hk).2]
  rw [Stuck, hri, htk, goesM_one hs, ho, Bool.false_and]
/-- The star takes one more. -/
theorem goes_back {r t : List α} {i k star back : Nat} (h : GoesInv any of r t i k star back) (hst : Stuck any of r t i k) (h0 : star ≠ 0) (hb : back < t.length) : GoesInv any of r t star (back + 1) star (back + 1) := by
  rw [GoesInv, if_neg h0] at h ⊢
  obtain ⟨s0, h1, h2, h3, h4, h5, h6, h7, h8⟩ := h
  have hlt0 : star - 1 < r.length := (List.getElem?_eq_some_iff.1 h1).1
  have hr0 : r.drop (star - 1) = s0 :: r.drop star := by
    rw [List.drop_eq_getElem_cons hlt0, (List.getElem?_eq_some_iff.1 h1).2, show star - 1 + 1 = star by omega]
  rw [hst, Bool.false_or, decide_eq_true hb, Bool.true_and] at h8
  refine ⟨s0, h1, h2, Nat.le_refl _, hb, by omega, by simp, h7.trans h8, ?_⟩
  rw [hr0, goesM_any h2, isEmpty_drop, List.tail_drop]
/-- No star is left. -/
theorem goes_fail {r t : List α} {i k star back : Nat} (h : GoesInv any of r t i k star back) (hst : Stuck any of r t i k) (h0 : star = 0 ∨ t.length ≤ back) : goesM any of r t = false := by
  rw [GoesInv] at h
  split at h
  · rw [h.2]; exact hst
  · obtain ⟨s0, h1, h2, h3, h4, h5, h6, h7, h8⟩ := h
    have hb : ¬ back < t.length := by omega
    rw [h7, h8, hst, decide_eq_false hb]
    rfl
theorem goes_done {r t : List α} {i k star back : Nat} (h : GoesInv any of r t i k star back) (hi : r.length ≤ i) (hk : t.length ≤ k) : goesM any of r t = true := by
  have e : goesM any of (r.drop i) (t.drop k) = true := by rw [List.drop_eq_nil_of_le hi, List.drop_eq_nil_of_le hk, goesM_nil]
  rw [GoesInv] at h
  split at h
  · rw [h.2, e]
  · obtain ⟨s0, h1, h2, h3, h4, h5, h6, h7, h8⟩ := h
    rw [h7, h8, e]
    rfl
theorem goes_meas {r t : List α} {i k star back : Nat} (h : GoesInv any of r t i k star back) : star ≤ i ∧ back ≤ t.length := by
  rw [GoesInv] at h
  split at h
  · exact ⟨by omega, by rw [h.1]; omega⟩
  · obtain ⟨s0, h1, h2, h3, h4, h5, h6, h7, h8⟩ := h
    exact ⟨h3, h4⟩

/-! The table's view: from the rows' ends. -/
theorem goesM_snoc_nil {x : α} (hx : any x = false) : ∀ a : List α, goesM any of (a ++ [x]) [] = false
  | [] => goesM_one_nil hx []
  | y :: a => by rw [List.cons_append, goesM_cn, goesM_snoc_nil hx a, Bool.and_false]
theorem goesM_snoc_any_nil {x : α} (hx : any x = true) : ∀ a : List α, goesM any of (a ++ [x]) [] = goesM any of a []
  | [] => by rw [List.nil_append, goesM_cn, hx, goesM_nil]; rfl
  | y :: a => by rw [List.cons_append, goesM_cn, goesM_snoc_any_nil hx a, goesM_cn]
theorem goesM_snoc_one {x y : α} (hx : any x = false) : ∀ a b : List α, goesM any of (a ++ [x]) (b ++ [y]) = (goesM any of a b && of x y)
  | [], [] => by rw [List.nil_append, List.nil_append, goesM_one hx, goesM_nil, Bool.and_comm]
  | [], z :: b => by
    rw [List.nil_append, List.cons_append, goesM_one hx, goesM_nil_cons, Bool.false_and]
    cases b with
    | nil => rw [List.nil_append, goesM_nil_cons, Bool.and_false]
    | cons u b => rw [List.cons_append, goesM_nil_cons, Bool.and_false]
  | u :: a, b => by
    rcases hu : any u with _ | _
    · cases b with
      | nil => rw [List.nil_append, List.cons_append, goesM_one hu, goesM_snoc_nil hx, goesM_one_nil hu, Bool.and_false, Bool.false_and]
      | cons z b => rw [List.cons_append, List.cons_append, goesM_one hu, goesM_one hu, goesM_snoc_one hx a b, Bool.and_assoc]
    · cases b with
      | nil =>
        rw [List.nil_append, List.cons_append, goesM_any hu, goesM_any hu]
        simp only [List.isEmpty_cons, List.isEmpty_nil, List.tail_cons, Bool.not_false, Bool.true_and, Bool.not_true, Bool.false_and, Bool.or_false]
        have h1 := goesM_snoc_one (y := y) hx a []
        rw [List.nil_append] at h1
        rw [h1, goesM_cn, hu, Bool.true_and, goesM_snoc_nil hx, Bool.or_false]
      | cons z b =>
        have h1 := goesM_snoc_one (y := y) hx a (z :: b)
        have h2 := goesM_snoc_one (y := y) hx (u :: a) b
        rw [List.cons_append] at h1 h2 ⊢
        rw [List.cons_append, goesM_cc hu, h1, h2, goesM_cc hu, Bool.and_or_distrib_right]
termination_by a b => a.length + b.length
theorem goesM_snoc_any {x y : α} (hx : any x = true) : ∀ a b : List α, goesM any of (a ++ [x]) (b ++ [y]) = (goesM any of a (b ++ [y]) || goesM any of (a ++ [x]) b)
  | [], [] => by
    rw [List.nil_append, List.nil_append, goesM_any hx]
    simp
  | [], z :: b => by
    have ih := goesM_snoc_any (y := y) hx [] b
    rw [List.nil_append] at ih ⊢
    rw [List.cons_append, goesM_cc hx, ih, goesM_cc hx, goesM_nil_cons, goesM_nil_cons, Bool.false_or, Bool.false_or]
    have : goesM any of [x] b = true := by
      clear ih
      induction b with
      | nil => rw [goesM_cn, hx, goesM_nil]; rfl
      | cons c b ih => rw [goesM_cc hx, ih, Bool.or_true]
    rw [this, Bool.or_true]
    rfl
  | u :: a, b => by
    rcases hu : any u with _ | _
    · cases b with
      | nil =>
        have ih := goesM_snoc_any_nil (of := of) hx a
        rw [List.nil_append, List.cons_append, goesM_one hu, ih, goesM_one hu, goesM_one_nil hu, Bool.or_false]
      | cons z b =>
        rw [List.cons_append, List.cons_append, goesM_one hu, goesM_one hu, goesM_one hu, goesM_snoc_any hx a b, Bool.and_or_distrib_left]
    · cases b with
      | nil =>
        have h1 := goesM_snoc_any (y := y) hx a []
        rw [List.nil_append] at h1 ⊢
        rw [List.cons_append, goesM_cc hu, goesM_cc hu, h1]
        rw [goesM_cn, goesM_cn, hu, goesM_snoc_any_nil hx a, Bool.true_and]
      | cons z b =>
        have h1 := goesM_snoc_any (y := y) hx a (z :: b)
        have h2 := goesM_snoc_any (y := y) hx (u :: a) b
        rw [List.cons_append] at h1 h2 ⊢
        rw [List.cons_append, goesM_cc hu, h1, h2, goesM_cc hu, goesM_cc hu]
        simp only [Bool.or_assoc, Bool.or_left_comm]
termination_by a b => a.length + b.length
end goes
end Go.Gx
