/- Plain law of directories made entry by entry. No program in sight. -/
import Derived.Test.YtkdmkjlchlcebaaSl7
namespace Go.Gx
set_option linter.unusedVariables false
set_option linter.unusedSimpArgs false

theorem bytesLess_tri {a b : List UInt8} (h : Op.bytesLess a b = false) (hne : a ≠ b) : Op.bytesLess b a = true := by
  rw [← bytesLess_gt a b, h]
  simpa using hne
theorem rising_ne {l : List Ent} (h : Rising l) {x y : Ent} (hx : x ∈ l) (hy : y ∈ l) (he : x.name = y.name) : x = y := by
  induction l with
  | nil => cases hx
  | cons z l ih =>
    have h1 := List.pairwise_cons.1 h
    rcases List.mem_cons.1 hx with rfl | hx2
    · rcases List.mem_cons.1 hy with rfl | hy2
      · rfl
      · have := h1.1 y hy2
        rw [he, bytesLess_irrefl] at this
        cases this
    · rcases List.mem_cons.1 hy with rfl | hy2
      · have := h1.1 x hx2
        rw [← he, bytesLess_irrefl] at this
        cases this
      · exact ih h1.2 hx2 hy2
/-- Rising lists of the same members are the same. -/
theorem rising_eq : ∀ {l m : List Ent}, Rising l → Rising m → (∀ x, x ∈ l ↔ x ∈ m) → l = m
  | [], [], _, _, _ => rfl
  | [], y :: m, _, _, h => absurd ((h y).2 (by simp)) (by simp)
  | x :: l, [], _, _, h => absurd ((h x).1 (by simp)) (by simp)
  | x :: l, y :: m, hl, hm, h => by
    have h1 := List.pairwise_cons.1 hl
    have h2 := List.pairwise_cons.1 hm
    have hxy : x = y := by
      rcases List.mem_cons.1 ((h x).1 (by simp)) with e | hx
      · exact e
      · rcases List.mem_cons.1 ((h y).2 (by simp)) with e | hy
        · exact e.symm
        · have a := h2.1 x hx
          have b := h1.1 y hy
          have := bytesLess_trans a b
          rw [bytesLess_irrefl] at this
          cases this
    subst hxy
    congr 1
    refine rising_eq h1.2 h2.2 fun z => ⟨fun hz => ?_, fun hz => ?_⟩
    · rcases List.mem_cons.1 ((h z).1 (List.mem_cons_of_mem _ hz)) with e | hz'
      · subst e
        have := h1.1 z hz
        rw [bytesLess_irrefl] at this
        cases this
      · exact hz'
    · rcases List.mem_cons.1 ((h z).2 (List.mem_cons_of_mem _ hz)) with e | hz'
      · subst e
        have := h2.1 z hz
        rw [bytesLess_irrefl] at this
        cases this
      · exact hz'

theorem withR_mem {x y : Ent} : ∀ {l : List Ent} {p : Bool}, y ∈ withR x p l ↔ (p = false ∧ y = x) ∨ (y ∈ l ∧ y.name ≠ x.name)
  | [], p => by
    rw [withR]
    cases p <;> simp
  | z :: l, p => by
    rw [withR]
    simp only [List.mem_append, withR_mem (l := l), List.mem_cons]
    cases p <;> cases hb : Op.bytesLess z.name x.name <;> by_cases hn : z.name = x.name <;> simp [hn] <;> grind
theorem withR_filter {x : Ent} : ∀ {l : List Ent}, withR x true l = remR x.name l
  | [] => rfl
  | y :: l => by
    rw [withR, if_neg (by simp), Bool.true_or, withR_filter, remR, remR, List.filter_cons]
    by_cases h : y.name = x.name <;> simp [h]
theorem remR_rising {n : List UInt8} {l : List Ent} (h : Rising l) : Rising (remR n l) := List.Pairwise.sublist List.filter_sublist h
theorem withR_rising {x : Ent} : ∀ {l : List Ent}, Rising l → Rising (withR x false l)
  | [], _ => by simp [withR, Rising]
  | y :: l, h => by
    have h1 := List.pairwise_cons.1 h
    rw [withR]
    cases hb : Op.bytesLess y.name x.name with
    | true =>
      have hne : y.name ≠ x.name := fun he => by rw [he, bytesLess_irrefl] at hb; cases hb
      rw [if_neg (by simp), if_pos hne, Bool.not_true, Bool.false_or, List.nil_append]
      refine List.pairwise_cons.2 ⟨fun z hz => ?_, withR_rising h1.2⟩
      rcases withR_mem.1 hz with ⟨_, rfl⟩ | ⟨hz, _⟩
      · exact hb
      · exact h1.1 z hz
    | false =>
      rw [if_pos ⟨rfl, rfl⟩, Bool.not_false, Bool.or_true, withR_filter]
      have hr := remR_rising (n := x.name) h1.2
      by_cases hn : y.name = x.name
      · rw [if_neg (by simpa using hn), List.append_nil]
        refine List.pairwise_cons.2 ⟨fun z hz => ?_, hr⟩
        rw [← hn]
        exact h1.1 z (List.mem_filter.1 hz).1
      · have hxy := bytesLess_tri hb hn
        rw [if_pos hn]
        refine List.pairwise_cons.2 ⟨fun z hz => ?_, List.pairwise_cons.2 ⟨fun z hz => h1.1 z (List.mem_filter.1 hz).1, hr⟩⟩
        rcases List.mem_cons.1 hz with rfl | hz
        · exact hxy
        · exact bytesLess_trans hxy (h1.1 z (List.mem_filter.1 hz).1)
theorem withR_len1 {x : Ent} : ∀ {l : List Ent}, (withR x false l).length ≤ l.length + 1
  | [] => by simp [withR]
  | y :: l => by
    rw [withR]
    cases hb : Op.bytesLess y.name x.name with
    | true =>
      have := withR_len1 (x := x) (l := l)
      rw [if_neg (by simp), Bool.not_true, Bool.false_or]
      simp only [List.length_append, List.length_cons, List.length_nil]
      split <;> simp <;> omega
    | false =>
      rw [if_pos ⟨rfl, rfl⟩, Bool.not_false, Bool.or_true, withR_filter]
      have : (remR x.name l).length ≤ l.length := List.length_filter_le _ _
      simp only [List.length_append, List.length_cons, List.length_nil]
      split <;> simp <;> omega

/-- A right entry by itself. -/
def Good (x : Ent) : Prop := (x.kind = 2 ∨ x.kind = 1) ∧ isName x.name = true
theorem errE_of : ∀ {l : List Ent} {a : List UInt8}, Rising l → (∀ x ∈ l, Op.bytesLess a x.name = true) → (∀ x ∈ l, Good x) → errE a l = 0
  | [], a, _, _, _ => rfl
  | x :: l, a, hr, ha, hg => by
    have h1 := List.pairwise_cons.1 hr
    have hx := hg x (by simp)
    have hw : wrongE x.kind x.name a = 0 := by unfold wrongE; rw [if_pos ⟨hx.1, hx.2, ha x (by simp)⟩]
    rw [errE, if_pos hw]
    exact errE_of h1.2 h1.1 fun y hy => hg y (by simp [hy])
theorem good_nil {x : Ent} (h : Good x) : Op.bytesLess [] x.name = true := by
  have : x.name ≠ [] := fun e => by have := h.2; rw [e] at this; simp [isName] at this
  simpa using (bytesLess_nil x.name).2 this
theorem check_of {l : List Ent} (hl : l.length ≤ 1024) (hr : Rising l) (hg : ∀ x ∈ l, Good x) : checkE l = 0 := by
  unfold checkE
  rw [if_neg (by omega)]
  exact errE_of hr (fun x hx => good_nil (hg x hx)) hg
theorem check_good {l : List Ent} (h : checkE l = 0) : ∀ x ∈ l, Good x := errE_ok l [] (check_parts h).2

theorem findR_yes {n : List UInt8} {y : Ent} : ∀ {l : List Ent}, Rising l → y ∈ l → y.name = n → findR n l = (y, true)
  | z :: l, hr, hy, hn => by
    rw [findR]
    split
    · rename_i hz
      rw [rising_ne hr (x := z) (y := y) (by simp) hy (by rw [hz, hn])]
    · rename_i hz
      rcases List.mem_cons.1 hy with rfl | hy
      · exact absurd hn hz
      · exact findR_yes (List.pairwise_cons.1 hr).2 hy hn
theorem findR_cases (n : List UInt8) : ∀ l : List Ent, (∃ y ∈ l, y.name = n ∧ findR n l = (y, true)) ∨ ((∀ y ∈ l, y.name ≠ n) ∧ findR n l = (zE, false))
  | [] => .inr ⟨fun y h => (by cases h), rfl⟩
  | z :: l => by
    rw [findR]
    split
    · rename_i hz; exact .inl ⟨z, by simp, hz, rfl⟩
    · rename_i hz
      rcases findR_cases n l with ⟨y, hy, h1, h2⟩ | ⟨h1, h2⟩
      · exact .inl ⟨y, by simp [hy], h1, h2⟩
      · refine .inr ⟨fun y hy => ?_, h2⟩
        rcases List.mem_cons.1 hy with rfl | hy
        · exact hz
        · exact h1 y hy

section
variable {l : List Ent} {x : Ent} {n : List UInt8}
theorem made_again (hr : Rising l) : withR x false (withR x false l) = withR x false l :=
  rising_eq (withR_rising (withR_rising hr)) (withR_rising hr) fun y => by
    rw [withR_mem, withR_mem]
    constructor
    · rintro (⟨_, rfl⟩ | ⟨h, _⟩)
      · exact .inl ⟨rfl, rfl⟩
      · exact h
    · rintro (⟨_, rfl⟩ | ⟨h, hn⟩)
      · exact .inl ⟨rfl, rfl⟩
      · exact .inr ⟨.inr ⟨h, hn⟩, hn⟩
theorem made_found (hr : Rising l) : findR x.name (withR x false l) = (x, true) := findR_yes (withR_rising hr) (withR_mem.2 (.inl ⟨rfl, rfl⟩)) rfl
theorem made_check (hc : checkE l = 0) (hx : Good x) (hl : l.length ≤ 1000) : checkE (withR x false l) = 0 :=
  check_of (Nat.le_trans withR_len1 (by omega)) (withR_rising (check_rising hc)) fun y hy => by
    rcases withR_mem.1 hy with ⟨_, rfl⟩ | ⟨hy, _⟩
    · exact hx
    · exact check_good hc y hy
theorem made_other (hr : Rising l) (hn : n ≠ x.name) : findR n l = findR n (withR x false l) := by
  rcases findR_cases n l with ⟨y, hy, h1, h2⟩ | ⟨h1, h2⟩
  · rw [h2, findR_yes (withR_rising hr) (withR_mem.2 (.inr ⟨hy, by rw [h1]; exact hn⟩)) h1]
  · rw [h2, findR_all]
    intro y hy he
    rcases withR_mem.1 hy with ⟨_, rfl⟩ | ⟨hy, _⟩
    · exact hn he.symm
    · exact h1 y hy he
theorem less_none : findR n (remR n l) = (zE, false) := findR_all fun y hy => by
  have := (List.mem_filter.1 hy).2
  simpa using this
theorem less_check (hc : checkE l = 0) : checkE (remR n l) = 0 :=
  check_of (Nat.le_trans (List.length_filter_le _ _) (check_parts hc).1) (remR_rising (check_rising hc)) fun y hy => check_good hc y (List.mem_filter.1 hy).1
theorem less_same (h : (findR n l).2 = false) : remR n l = l := by
  rcases findR_cases n l with ⟨y, hy, h1, h2⟩ | ⟨h1, h2⟩
  · rw [h2] at h; cases h
  · exact remR_all h1
theorem less_one (hr : Rising l) (h : (findR n l).2 = true) : (remR n l).length = l.length - 1 ∧ withR (findR n l).1 false (remR n l) = l ∧ (findR n l).1 ∈ l := by
  rcases findR_cases n l with ⟨y, hy, h1, h2⟩ | ⟨h1, h2⟩
  · rw [h2]
    refine ⟨?_, ?_, hy⟩
    · have hobt := List.append_of_mem hy
      obtain ⟨s, t, e⟩ := hobt
      have hne : ∀ z ∈ s ++ t, z.name ≠ n := by
        intro z hz he
        have hp := hr
        rw [e] at hp
        have hp' := List.pairwise_append.1 hp
        rcases List.mem_append.1 hz with hz | hz
        · have := hp'.2.2 z hz y (by simp)
          rw [he, h1, bytesLess_irrefl] at this
          cases this
        · have := (List.pairwise_cons.1 hp'.2.1).1 z hz
          rw [he, h1, bytesLess_irrefl] at this
          cases this
      have e2 : remR n l = s ++ t := by
        rw [e, remR, List.filter_append, List.filter_cons, if_neg (by simp [h1]), ← List.filter_append]
        exact remR_all hne
      rw [e2, e]
      simp
    · refine rising_eq (withR_rising (remR_rising hr)) hr fun z => ?_
      rw [withR_mem]
      constructor
      · rintro (⟨_, rfl⟩ | ⟨hz, _⟩)
        · exact hy
        · exact (List.mem_filter.1 hz).1
      · intro hz
        by_cases he : z.name = n
        · exact .inl ⟨rfl, rising_ne hr hz hy (by rw [he, h1])⟩
        · exact .inr ⟨List.mem_filter.2 ⟨hz, by simpa using he⟩, by rw [h1]; exact he⟩
  · rw [h2] at h; cases h
end
end Go.Gx
