/- Plain law: on rising lists node's With, Without, Find are the document's. No program in sight. -/
import Derived.Test.YtkdmkjlchlcebaaSl6
import Derived.Test.YtkdmkjlchlcebaaBack
namespace Go.Gx
set_option linter.unusedVariables false
set_option linter.unusedSimpArgs false

theorem errE_rising : ∀ (l : List Ent) (a : List UInt8), errE a l = 0 → (∀ x ∈ l, Op.bytesLess a x.name = true) ∧ Rising l
  | [], a, _ => ⟨fun x h => (by cases h), List.Pairwise.nil⟩
  | x :: l, a, h => by
    simp only [errE] at h
    split at h
    · rename_i hw
      have hobt := errE_rising l x.name h
      obtain ⟨h1, h2⟩ := hobt
      have hlt : Op.bytesLess a x.name = true := by
        unfold wrongE at hw
        split at hw
        · rename_i h3; exact h3.2.2
        · cases hw
      refine ⟨fun y hy => ?_, List.Pairwise.cons h1 h2⟩
      rcases List.mem_cons.1 hy with rfl | hy
      · exact hlt
      · exact bytesLess_trans hlt (h1 y hy)
    · rename_i hw; exact absurd h hw
theorem check_rising {l : List Ent} (h : checkE l = 0) : Rising l := (errE_rising l [] (check_parts h).2).2

/-- A rising list parted at i: what lies ahead is below n, what lies behind is not; of that only the first can be n. -/
structure Halves (l : List Ent) (n : List UInt8) (i : Nat) (A B : List Ent) : Prop where
  eq : l = A ++ B
  lenA : A.length = i
  ahead : ∀ y ∈ A, Op.bytesLess y.name n = true
  behind : ∀ y ∈ B, Op.bytesLess y.name n = false
  rest : ∀ y ∈ B.tail, y.name ≠ n

theorem halves {l : List Ent} {n : List UInt8} {i : Nat} (hr : Rising l) (hp : PartAt l n i) (hi : i ≤ l.length) : Halves l n i (l.take i) (l.drop i) := by
  refine ⟨(List.take_append_drop i l).symm, by simp; omega, fun y hy => ?_, fun y hy => ?_, fun y hy => ?_⟩
  · have hobt := List.mem_iff_getElem.1 hy
    obtain ⟨j, hj, rfl⟩ := hobt
    rw [List.getElem_take]
    simp at hj
    exact hp.1 j (by omega) (by omega)
  · have hobt := List.mem_iff_getElem.1 hy
    obtain ⟨j, hj, rfl⟩ := hobt
    rw [List.getElem_drop]
    simp at hj
    exact hp.2 (i + j) (by omega) (by omega)
  · rw [List.tail_drop] at hy
    have hobt := List.mem_iff_getElem.1 hy
    obtain ⟨j, hj, rfl⟩ := hobt
    rw [List.getElem_drop]
    simp at hj
    intro h
    have h1 := rising_lt hr (i := i) (j := i + 1 + j) (by omega) (by omega)
    rw [h] at h1
    rw [hp.2 i (by omega) (Nat.le_refl _)] at h1
    cases h1

section
variable {l A B : List Ent} {n : List UInt8} {i : Nat}
theorem Halves.ne (h : Halves l n i A B) : ∀ y ∈ A, y.name ≠ n := fun y hy he => by
  have := h.ahead y hy
  rw [he, bytesLess_irrefl] at this
  cases this
theorem Halves.at_ (h : Halves l n i A B) : l[i]? = B.head? := by
  rw [h.eq, List.getElem?_append_right (by rw [h.lenA]; exact Nat.le_refl _), h.lenA, Nat.sub_self, List.head?_eq_getElem?]
theorem Halves.take (h : Halves l n i A B) : l.take i = A := by rw [h.eq, ← h.lenA, List.take_left]
theorem Halves.drop (h : Halves l n i A B) : l.drop i = B := by rw [h.eq, ← h.lenA, List.drop_left]
theorem Halves.drop1 (h : Halves l n i A B) : l.drop (i + 1) = B.tail := by rw [← List.tail_drop, h.drop]
end

theorem remR_all {n : List UInt8} {B : List Ent} (h : ∀ y ∈ B, y.name ≠ n) : remR n B = B := List.filter_eq_self.2 fun y hy => by simpa using h y hy
theorem findR_all {n : List UInt8} : ∀ {B : List Ent}, (∀ y ∈ B, y.name ≠ n) → findR n B = (zE, false)
  | [], _ => rfl
  | y :: B, h => by
    rw [findR, if_neg (h y (by simp))]
    exact findR_all fun z hz => h z (by simp [hz])
theorem findR_append {n : List UInt8} {B : List Ent} : ∀ {A : List Ent}, (∀ y ∈ A, y.name ≠ n) → findR n (A ++ B) = findR n B
  | [], _ => rfl
  | y :: A, h => by
    rw [List.cons_append, findR, if_neg (h y (by simp))]
    exact findR_append fun z hz => h z (by simp [hz])
theorem withR_true {x : Ent} : ∀ {B : List Ent}, (∀ y ∈ B, y.name ≠ x.name) → withR x true B = B
  | [], _ => rfl
  | y :: B, h => by
    rw [withR, if_neg (by simp), if_pos (h y (by simp)), Bool.true_or, withR_true fun z hz => h z (by simp [hz])]
    rfl
theorem withR_ahead {x : Ent} {B : List Ent} : ∀ {A : List Ent}, (∀ y ∈ A, Op.bytesLess y.name x.name = true) → withR x false (A ++ B) = A ++ withR x false B
  | [], _ => rfl
  | y :: A, h => by
    have hy := h y (by simp)
    have hne : y.name ≠ x.name := fun he => by rw [he, bytesLess_irrefl] at hy; cases hy
    rw [List.cons_append, withR, if_neg (by simp [hy]), if_pos hne, hy, Bool.not_true, Bool.false_or, withR_ahead fun z hz => h z (by simp [hz])]
    rfl

section
variable {l A B : List Ent} {n : List UInt8} {i : Nat}
theorem lessP_eq (h : Halves l n i A B) : lessP l n i = remR n l := by
  have hat := h.at_
  have e : remR n l = A ++ remR n B := by rw [h.eq, remR, List.filter_append]; exact congrArg (· ++ _) (remR_all h.ne)
  rw [e]
  unfold lessP At? del
  rw [hat, h.take, h.drop1]
  cases B with
  | nil => simp [h.eq, remR]
  | cons y B =>
    have hr := h.rest
    simp only [List.tail_cons] at hr
    have er : remR n (y :: B) = if y.name = n then B else y :: B := by
      rw [remR, List.filter_cons]
      have := remR_all hr
      unfold remR at this
      rw [this]
      by_cases hn : y.name = n <;> simp [hn]
    rw [er]
    by_cases hn : y.name = n
    · simp [hn]
    · simp [hn, h.eq]
theorem findP_eq (h : Halves l n i A B) : (findP l n i, At? l n i) = findR n l := by
  have hat := h.at_
  have e : findR n l = findR n B := by rw [h.eq]; exact findR_append h.ne
  rw [e]
  unfold findP At?
  rw [List.getD_eq_getElem?_getD, hat]
  cases B with
  | nil => rfl
  | cons y B =>
    have hr := h.rest
    simp only [List.tail_cons] at hr
    rw [findR]
    by_cases hn : y.name = n
    · simp [hn]
    · rw [if_neg hn, findR_all hr]
      simp [hn]
theorem withP_eq {x : Ent} (h : Halves l x.name i A B) (hi : i ≤ l.length) : withP l x i = withR x false l := by
  have hat := h.at_
  have e : withR x false l = A ++ withR x false B := by rw [h.eq]; exact withR_ahead h.ahead
  rw [e]
  unfold withP At? ins
  rw [hat, List.set_eq_take_append_cons_drop, h.take, h.drop, h.drop1]
  cases B with
  | nil => simp [withR]
  | cons y B =>
    have hr := h.rest
    have hb := h.behind y (by simp)
    simp only [List.tail_cons] at hr
    have hlt : i < l.length := by
      have := congrArg List.length h.eq
      rw [List.length_append, h.lenA] at this
      simp at this
      omega
    rw [withR, if_pos (⟨rfl, hb⟩ : false = false ∧ Op.bytesLess y.name x.name = false), hb, Bool.not_false, Bool.or_true, withR_true hr]
    by_cases hn : y.name = x.name
    · simp [hn, hlt]
    · simp [hn]
end
end Go.Gx
