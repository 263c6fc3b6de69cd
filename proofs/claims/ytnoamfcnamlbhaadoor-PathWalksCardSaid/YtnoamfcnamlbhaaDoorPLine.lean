/- PathLine: the order of rows of parts. -/
import Derived.Test.YtnoamfcnamlbhaaDoorPSame
namespace Go.Gx
open Go.Proofs Go.RowKit
set_option linter.unusedVariables false
set_option linter.unusedSimpArgs false
set_option maxRecDepth 100000

theorem bytesLess_asym {a b : List UInt8} (h : Op.bytesLess a b = true) : Op.bytesLess b a = false := by
  cases h2 : Op.bytesLess b a with
  | false => rfl
  | true =>
    have := bytesLess_trans h h2
    rw [bytesLess_irrefl] at this
    cases this
/-- The order of rows. -/
def ltR : List (List UInt8) → List (List UInt8) → Bool
  | [], [] => false
  | [], _ :: _ => true
  | _ :: _, [] => false
  | a :: x, b :: y => if a = b then ltR x y else Op.bytesLess a b
theorem ltR_cmp : ∀ x y : List (List UInt8), decide (cmpF x y < 0) = ltR x y
  | [], [] => rfl
  | [], _ :: _ => rfl
  | _ :: _, [] => rfl
  | a :: x, b :: y => by
    rw [ltR]
    by_cases h : a = b
    · subst h
      rw [if_pos rfl, cmpF_eq, ltR_cmp x y]
    · rw [if_neg h, cmpF_ne x y h]
theorem ltR_irrefl : ∀ x, ltR x x = false
  | [] => rfl
  | a :: x => by rw [ltR, if_pos rfl, ltR_irrefl x]
theorem ltR_asym : ∀ {x y : List (List UInt8)}, ltR x y = true → ltR y x = false
  | [], [], h => by cases h
  | [], _ :: _, _ => rfl
  | _ :: _, [], h => by cases h
  | a :: x, b :: y, h => by
    rw [ltR] at h ⊢
    by_cases e : a = b
    · rw [if_pos e] at h; rw [if_pos e.symm]; exact ltR_asym h
    · rw [if_neg e] at h; rw [if_neg (fun e' => e e'.symm)]; exact bytesLess_asym h
theorem ltR_tri : ∀ {x y : List (List UInt8)}, x ≠ y → ltR x y = false → ltR y x = true
  | [], [], h, _ => absurd rfl h
  | [], _ :: _, _, h => by cases h
  | _ :: _, [], _, _ => rfl
  | a :: x, b :: y, hne, h => by
    rw [ltR] at h ⊢
    by_cases e : a = b
    · subst e
      rw [if_pos rfl] at h ⊢
      exact ltR_tri (fun e => hne (by rw [e])) h
    · rw [if_neg e] at h; rw [if_neg (fun e' => e e'.symm)]; exact bytesLess_tri h e
theorem ltR_trans : ∀ {x y z : List (List UInt8)}, ltR x y = true → ltR y z = true → ltR x z = true
  | [], [], _, h, _ => by cases h
  | [], _ :: _, [], _, h => by cases h
  | [], _ :: _, _ :: _, _, _ => rfl
  | _ :: _, [], _, h, _ => by cases h
  | _ :: _, _ :: _, [], _, h => by cases h
  | a :: x, b :: y, c :: z, h1, h2 => by
    rw [ltR] at h1 h2 ⊢
    by_cases e1 : a = b
    · subst e1
      rw [if_pos rfl] at h1
      by_cases e2 : a = c
      · rw [if_pos e2] at h2 ⊢; exact ltR_trans h1 h2
      · rw [if_neg e2] at h2 ⊢; exact h2
    · rw [if_neg e1] at h1
      by_cases e2 : b = c
      · subst e2; rw [if_neg e1]; exact h1
      · rw [if_neg e2] at h2
        have h3 := bytesLess_trans h1 h2
        by_cases e3 : a = c
        · subst e3; rw [bytesLess_irrefl] at h3; cases h3
        · rw [if_neg e3]; exact h3
theorem under_iff (x y : List (List UInt8)) : underL x y = true ↔ ∃ z, y = x ++ z := by
  rw [underL, decide_eq_true_eq]
  constructor
  · intro h
    refine ⟨y.drop x.length, ?_⟩
    conv => lhs; rw [← List.take_append_drop x.length y]
    rw [← h]
  · rintro ⟨z, rfl⟩
    simp
theorem ltR_under : ∀ {x y : List (List UInt8)}, underL x y = true → x ≠ y → ltR x y = true := by
  intro x y h hne
  have hobt := (under_iff x y).1 h
  obtain ⟨z, rfl⟩ := hobt
  have hz : z ≠ [] := fun e => hne (by rw [e, List.append_nil])
  clear h hne
  induction x with
  | nil => cases z with
    | nil => exact absurd rfl hz
    | cons a z => rfl
  | cons a x ih => rw [List.cons_append, ltR, if_pos rfl]; exact ih
theorem ltR_between : ∀ {x y z : List (List UInt8)}, underL x z = true → ltR x y = true → ltR y z = true → underL x y = true
  | [], y, z, _, _, _ => rfl
  | a :: x, [], z, _, h, _ => by cases h
  | a :: x, b :: y, z, hu, h1, h2 => by
    have hobt := (under_iff _ _).1 hu
    obtain ⟨r, hz⟩ := hobt
    subst hz
    rw [List.cons_append] at h2
    rw [ltR] at h1 h2
    by_cases e : a = b
    · subst e
      rw [if_pos rfl] at h1 h2
      have ih := ltR_between (x := x) (y := y) (z := x ++ r) ((under_iff _ _).2 ⟨r, rfl⟩) h1 h2
      have hobt := (under_iff _ _).1 ih
      obtain ⟨q, hq⟩ := hobt
      exact (under_iff _ _).2 ⟨q, by rw [hq]; rfl⟩
    · rw [if_neg e] at h1
      rw [if_neg (fun e' => e e'.symm)] at h2
      rw [bytesLess_asym h1] at h2
      cases h2

set_option maxHeartbeats 4000000 in
theorem pathLine_spec {s t r : List UInt8} (w0 : World) (hk : Knows) (hg : Gl w0) (hs1 : s.length ≤ 9223372036854775807) (ht1 : t.length ≤ 9223372036854775807) (hr1 : r.length ≤ 9223372036854775807) : Calls Tryd.prog 8 #[str s, str t, str r] w0 (Ret0 (.bool true) w0) := by
  have hs : Step [] [] w0 w0 := Step.refl w0
  by_cases hb1 : 16777216 < s.length
  · refine calls (n := 118) Tryd.func8 rfl rfl rfl ?_
    repeat (first | refine CW.seq ?_ | refine CW.block ?_ | refine CW.skip ?_ | refine CW.label ?_ | refine CW.exit ?_ | refine CW.condT rfl ?_ | refine CW.condF rfl ?_)
    refine CW.reg ?_
    refine WL.val rfl (run_assign) ?_
    refine WL.nil ?_
    repeat (first | refine CW.seq ?_ | refine CW.block ?_ | refine CW.skip ?_ | refine CW.label ?_ | refine CW.exit ?_ | refine CW.condT rfl ?_ | refine CW.condF rfl ?_)
    refine CW.reg ?_
    refine WL.enter rfl (run_call en11 rfl rfl) (hk _ hg) ?_
    rintro e w ⟨rfl, hq⟩
    refine ⟨_, rfl, ?_⟩
    replace hs := hs.callE hq
    first | refine WL.val rfl (run_notB rfl) ?_ | refine WL.val rfl (run_not rfl) ?_
    refine WL.nil ?_
    repeat (first | refine CW.seq ?_ | refine CW.block ?_ | refine CW.skip ?_ | refine CW.label ?_ | refine CW.exit ?_ | refine CW.condT rfl ?_ | refine CW.condF rfl ?_)
    refine CW.reg ?_
    refine WL.val rfl (run_move) ?_
    refine WL.val rfl (run_lenStr Tryd.underlying9 rfl) ?_
    refine WL.val rfl (run_bT (run_gtr rfl rfl) (by omega)) ?_
    refine WL.val rfl (run_move) ?_
    first | (refine WL.yes rfl rfl rfl ?_; refine WL.val rfl (run_move) ?_) | refine WL.no rfl rfl rfl (.inl rfl) ?_ | refine WL.no rfl rfl rfl (.inr rfl) ?_
    first | (refine WL.yes rfl rfl rfl ?_; refine WL.val rfl (run_lenStr Tryd.underlying9 rfl) ?_) | refine WL.no rfl rfl rfl (.inl rfl) ?_ | refine WL.no rfl rfl rfl (.inr rfl) ?_
    first | (refine WL.yes rfl rfl rfl ?_; refine WL.val rfl (run_gtr rfl rfl) ?_) | refine WL.no rfl rfl rfl (.inl rfl) ?_ | refine WL.no rfl rfl rfl (.inr rfl) ?_
    first | refine WL.val rfl (run_pickT rfl) ?_ | refine WL.val rfl (run_pickF rfl) ?_
    refine WL.val rfl (run_move) ?_
    first | (refine WL.yes rfl rfl rfl ?_; refine WL.val rfl (run_move) ?_) | refine WL.no rfl rfl rfl (.inl rfl) ?_ | refine WL.no rfl rfl rfl (.inr rfl) ?_
    first | (refine WL.yes rfl rfl rfl ?_; refine WL.val rfl (run_lenStr Tryd.underlying9 rfl) ?_) | refine WL.no rfl rfl rfl (.inl rfl) ?_ | refine WL.no rfl rfl rfl (.inr rfl) ?_
    first | (refine WL.yes rfl rfl rfl ?_; refine WL.val rfl (run_gtr rfl rfl) ?_) | refine WL.no rfl rfl rfl (.inl rfl) ?_ | refine WL.no rfl rfl rfl (.inr rfl) ?_
    first | refine WL.val rfl (run_pickT rfl) ?_ | refine WL.val rfl (run_pickF rfl) ?_
    refine WL.nil ?_
    repeat (first | refine CW.seq ?_ | refine CW.block ?_ | refine CW.skip ?_ | refine CW.label ?_ | refine CW.exit ?_ | refine CW.condT rfl ?_ | refine CW.condF rfl ?_)
    refine CW.reg ?_
    refine WL.val rfl (run_assign) ?_
    refine WL.nil ?_
    repeat (first | refine CW.seq ?_ | refine CW.block ?_ | refine CW.skip ?_ | refine CW.label ?_ | refine CW.exit ?_ | refine CW.condT rfl ?_ | refine CW.condF rfl ?_)
    refine CW.ret ?_
    refine fin_ret1 rfl ?_
    exact ⟨rfl, hs⟩
  by_cases hb2 : 16777216 < t.length
  · refine calls (n := 118) Tryd.func8 rfl rfl rfl ?_
    repeat (first | refine CW.seq ?_ | refine CW.block ?_ | refine CW.skip ?_ | refine CW.label ?_ | refine CW.exit ?_ | refine CW.condT rfl ?_ | refine CW.condF rfl ?_)
    refine CW.reg ?_
    refine WL.val rfl (run_assign) ?_
    refine WL.nil ?_
    repeat (first | refine CW.seq ?_ | refine CW.block ?_ | refine CW.skip ?_ | refine CW.label ?_ | refine CW.exit ?_ | refine CW.condT rfl ?_ | refine CW.condF rfl ?_)
    refine CW.reg ?_
    refine WL.enter rfl (run_call en11 rfl rfl) (hk _ hg) ?_
    rintro e w ⟨rfl, hq⟩
    refine ⟨_, rfl, ?_⟩
    replace hs := hs.callE hq
    first | refine WL.val rfl (run_notB rfl) ?_ | refine WL.val rfl (run_not rfl) ?_
    refine WL.nil ?_
    repeat (first | refine CW.seq ?_ | refine CW.block ?_ | refine CW.skip ?_ | refine CW.label ?_ | refine CW.exit ?_ | refine CW.condT rfl ?_ | refine CW.condF rfl ?_)
    refine CW.reg ?_
    refine WL.val rfl (run_move) ?_
    refine WL.val rfl (run_lenStr Tryd.underlying9 rfl) ?_
    refine WL.val rfl (run_bF (run_gtr rfl rfl) (by omega)) ?_
    refine WL.val rfl (run_move) ?_
    first | (refine WL.yes rfl rfl rfl ?_; refine WL.val rfl (run_move) ?_) | refine WL.no rfl rfl rfl (.inl rfl) ?_ | refine WL.no rfl rfl rfl (.inr rfl) ?_
    first | (refine WL.yes rfl rfl rfl ?_; refine WL.val rfl (run_lenStr Tryd.underlying9 rfl) ?_) | refine WL.no rfl rfl rfl (.inl rfl) ?_ | refine WL.no rfl rfl rfl (.inr rfl) ?_
    refine WL.yes rfl rfl rfl ?_
    refine WL.val rfl (run_bT (run_gtr rfl rfl) (by omega)) ?_
    first | refine WL.val rfl (run_pickT rfl) ?_ | refine WL.val rfl (run_pickF rfl) ?_
    refine WL.val rfl (run_move) ?_
    first | (refine WL.yes rfl rfl rfl ?_; refine WL.val rfl (run_move) ?_) | refine WL.no rfl rfl rfl (.inl rfl) ?_ | refine WL.no rfl rfl rfl (.inr rfl) ?_
    first | (refine WL.yes rfl rfl rfl ?_; refine WL.val rfl (run_lenStr Tryd.underlying9 rfl) ?_) | refine WL.no rfl rfl rfl (.inl rfl) ?_ | refine WL.no rfl rfl rfl (.inr rfl) ?_
    first | (refine WL.yes rfl rfl rfl ?_; refine WL.val rfl (run_gtr rfl rfl) ?_) | refine WL.no rfl rfl rfl (.inl rfl) ?_ | refine WL.no rfl rfl rfl (.inr rfl) ?_
    first | refine WL.val rfl (run_pickT rfl) ?_ | refine WL.val rfl (run_pickF rfl) ?_
    refine WL.nil ?_
    repeat (first | refine CW.seq ?_ | refine CW.block ?_ | refine CW.skip ?_ | refine CW.label ?_ | refine CW.exit ?_ | refine CW.condT rfl ?_ | refine CW.condF rfl ?_)
    refine CW.reg ?_
    refine WL.val rfl (run_assign) ?_
    refine WL.nil ?_
    repeat (first | refine CW.seq ?_ | refine CW.block ?_ | refine CW.skip ?_ | refine CW.label ?_ | refine CW.exit ?_ | refine CW.condT rfl ?_ | refine CW.condF rfl ?_)
    refine CW.ret ?_
    refine fin_ret1 rfl ?_
    exact ⟨rfl, hs⟩
  by_cases hb3 : 16777216 < r.length
  · refine calls (n := 118) Tryd.func8 rfl rfl rfl ?_
    repeat (first | refine CW.seq ?_ | refine CW.block ?_ | refine CW.skip ?_ | refine CW.label ?_ | refine CW.exit ?_ | refine CW.condT rfl ?_ | refine CW.condF rfl ?_)
    refine CW.reg ?_
    refine WL.val rfl (run_assign) ?_
    refine WL.nil ?_
    repeat (first | refine CW.seq ?_ | refine CW.block ?_ | refine CW.skip ?_ | refine CW.label ?_ | refine CW.exit ?_ | refine CW.condT rfl ?_ | refine CW.condF rfl ?_)
    refine CW.reg ?_
    refine WL.enter rfl (run_call en11 rfl rfl) (hk _ hg) ?_
    rintro e w ⟨rfl, hq⟩
    refine ⟨_, rfl, ?_⟩
    replace hs := hs.callE hq
    first | refine WL.val rfl (run_notB rfl) ?_ | refine WL.val rfl (run_not rfl) ?_
    refine WL.nil ?_
    repeat (first | refine CW.seq ?_ | refine CW.block ?_ | refine CW.skip ?_ | refine CW.label ?_ | refine CW.exit ?_ | refine CW.condT rfl ?_ | refine CW.condF rfl ?_)
    refine CW.reg ?_
    refine WL.val rfl (run_move) ?_
    refine WL.val rfl (run_lenStr Tryd.underlying9 rfl) ?_
    refine WL.val rfl (run_bF (run_gtr rfl rfl) (by omega)) ?_
    refine WL.val rfl (run_move) ?_
    first | (refine WL.yes rfl rfl rfl ?_; refine WL.val rfl (run_move) ?_) | refine WL.no rfl rfl rfl (.inl rfl) ?_ | refine WL.no rfl rfl rfl (.inr rfl) ?_
    first | (refine WL.yes rfl rfl rfl ?_; refine WL.val rfl (run_lenStr Tryd.underlying9 rfl) ?_) | refine WL.no rfl rfl rfl (.inl rfl) ?_ | refine WL.no rfl rfl rfl (.inr rfl) ?_
    refine WL.yes rfl rfl rfl ?_
    refine WL.val rfl (run_bF (run_gtr rfl rfl) (by omega)) ?_
    first | refine WL.val rfl (run_pickT rfl) ?_ | refine WL.val rfl (run_pickF rfl) ?_
    refine WL.val rfl (run_move) ?_
    first | (refine WL.yes rfl rfl rfl ?_; refine WL.val rfl (run_move) ?_) | refine WL.no rfl rfl rfl (.inl rfl) ?_ | refine WL.no rfl rfl rfl (.inr rfl) ?_
    first | (refine WL.yes rfl rfl rfl ?_; refine WL.val rfl (run_lenStr Tryd.underlying9 rfl) ?_) | refine WL.no rfl rfl rfl (.inl rfl) ?_ | refine WL.no rfl rfl rfl (.inr rfl) ?_
    refine WL.yes rfl rfl rfl ?_
    refine WL.val rfl (run_bT (run_gtr rfl rfl) (by omega)) ?_
    first | refine WL.val rfl (run_pickT rfl) ?_ | refine WL.val rfl (run_pickF rfl) ?_
    refine WL.nil ?_
    repeat (first | refine CW.seq ?_ | refine CW.block ?_ | refine CW.skip ?_ | refine CW.label ?_ | refine CW.exit ?_ | refine CW.condT rfl ?_ | refine CW.condF rfl ?_)
    refine CW.reg ?_
    refine WL.val rfl (run_assign) ?_
    refine WL.nil ?_
    repeat (first | refine CW.seq ?_ | refine CW.block ?_ | refine CW.skip ?_ | refine CW.label ?_ | refine CW.exit ?_ | refine CW.condT rfl ?_ | refine CW.condF rfl ?_)
    refine CW.ret ?_
    refine fin_ret1 rfl ?_
    exact ⟨rfl, hs⟩
  have hpl := partsL_len s
  have hpt := partsL_len t
  have cLab := fun w hg => less_spec (s := s) (t := t) w hg (by omega) (by omega)
  have cLba := fun w hg => less_spec (s := t) (t := s) w hg (by omega) (by omega)
  have cLbc := fun w hg => less_spec (s := t) (t := r) w hg (by omega) (by omega)
  have cLac := fun w hg => less_spec (s := s) (t := r) w hg (by omega) (by omega)
  have cUab := fun w hg => under_spec (s := s) (t := t) w hg (by omega) (by omega)
  have cUac := fun w hg => under_spec (s := s) (t := r) w hg (by omega) (by omega)
  have cNa := fun w hg => names_spec (s := s) w hg (by omega)
  have cNb := fun w hg => names_spec (s := t) w hg (by omega)
  have hobt : ∃ x, partsL s = x := ⟨_, rfl⟩
  obtain ⟨x, hx⟩ := hobt
  have hobt : ∃ y, partsL t = y := ⟨_, rfl⟩
  obtain ⟨y, hy⟩ := hobt
  have hobt : ∃ z, partsL r = z := ⟨_, rfl⟩
  obtain ⟨z, hz⟩ := hobt
  simp only [hx, hy, hz, ltR_cmp] at cLab cLba cLbc cLac cUab cUac cNa cNb hpl hpt
  by_cases hxy : x = y
  · have hab : ltR x y = false := by rw [hxy]; exact ltR_irrefl y
    have hba : ltR y x = false := by rw [hxy]; exact ltR_irrefl y
    have huab : underL x y = true := (under_iff x y).2 ⟨[], by rw [hxy, List.append_nil]⟩
    have cS := fun {a a2 c c2} w (h1 : Texts w a x) (h2 : Texts w a2 y) => same_spec3 (c := c) (c2 := c2) w h1 h2 (by omega) (by omega)
    simp only [hab] at cLab
    simp only [hba] at cLba
    simp only [huab] at cUab
    simp only [decide_eq_true hxy] at cS
    have hobt : ∃ b, ltR x z = b := ⟨_, rfl⟩
    obtain ⟨ac, hac⟩ := hobt
    have hobt : ∃ b, underL x z = b := ⟨_, rfl⟩
    obtain ⟨uac, huac⟩ := hobt
    have hobt : ∃ b, ltR y z = b := ⟨_, rfl⟩
    obtain ⟨bc, hbc⟩ := hobt
    simp only [hbc] at cLbc
    simp only [hac] at cLac
    simp only [huac] at cUac
    refine calls (n := 118) Tryd.func8 rfl rfl rfl ?_
    repeat (first | refine CW.seq ?_ | refine CW.block ?_ | refine CW.skip ?_ | refine CW.label ?_ | refine CW.exit ?_ | refine CW.condT rfl ?_ | refine CW.condF rfl ?_)
    refine CW.reg ?_
    refine WL.val rfl (run_assign) ?_
    refine WL.nil ?_
    repeat (first | refine CW.seq ?_ | refine CW.block ?_ | refine CW.skip ?_ | refine CW.label ?_ | refine CW.exit ?_ | refine CW.condT rfl ?_ | refine CW.condF rfl ?_)
    refine CW.reg ?_
    refine WL.enter rfl (run_call en11 rfl rfl) (hk _ hg) ?_
    rintro e w ⟨rfl, hq⟩
    refine ⟨_, rfl, ?_⟩
    replace hs := hs.callE hq
    first | refine WL.val rfl (run_notB rfl) ?_ | refine WL.val rfl (run_not rfl) ?_
    refine WL.nil ?_
    repeat (first | refine CW.seq ?_ | refine CW.block ?_ | refine CW.skip ?_ | refine CW.label ?_ | refine CW.exit ?_ | refine CW.condT rfl ?_ | refine CW.condF rfl ?_)
    refine CW.reg ?_
    refine WL.val rfl (run_move) ?_
    refine WL.val rfl (run_lenStr Tryd.underlying9 rfl) ?_
    refine WL.val rfl (run_bF (run_gtr rfl rfl) (by omega)) ?_
    refine WL.val rfl (run_move) ?_
    first | (refine WL.yes rfl rfl rfl ?_; refine WL.val rfl (run_move) ?_) | refine WL.no rfl rfl rfl (.inl rfl) ?_ | refine WL.no rfl rfl rfl (.inr rfl) ?_
    first | (refine WL.yes rfl rfl rfl ?_; refine WL.val rfl (run_lenStr Tryd.underlying9 rfl) ?_) | refine WL.no rfl rfl rfl (.inl rfl) ?_ | refine WL.no rfl rfl rfl (.inr rfl) ?_
    refine WL.yes rfl rfl rfl ?_
    refine WL.val rfl (run_bF (run_gtr rfl rfl) (by omega)) ?_
    first | refine WL.val rfl (run_pickT rfl) ?_ | refine WL.val rfl (run_pickF rfl) ?_
    refine WL.val rfl (run_move) ?_
    first | (refine WL.yes rfl rfl rfl ?_; refine WL.val rfl (run_move) ?_) | refine WL.no rfl rfl rfl (.inl rfl) ?_ | refine WL.no rfl rfl rfl (.inr rfl) ?_
    first | (refine WL.yes rfl rfl rfl ?_; refine WL.val rfl (run_lenStr Tryd.underlying9 rfl) ?_) | refine WL.no rfl rfl rfl (.inl rfl) ?_ | refine WL.no rfl rfl rfl (.inr rfl) ?_
    refine WL.yes rfl rfl rfl ?_
    refine WL.val rfl (run_bF (run_gtr rfl rfl) (by omega)) ?_
    first | refine WL.val rfl (run_pickT rfl) ?_ | refine WL.val rfl (run_pickF rfl) ?_
    refine WL.nil ?_
    repeat (first | refine CW.seq ?_ | refine CW.block ?_ | refine CW.skip ?_ | refine CW.label ?_ | refine CW.exit ?_ | refine CW.condT rfl ?_ | refine CW.condF rfl ?_)
    refine CW.reg ?_
    refine WL.val rfl (run_move) ?_
    refine WL.enter rfl (run_call en20 rfl rfl) (cNa _ (hg.step hs)) ?_
    rintro e w ⟨u, Lu, rfl, hu, hqs⟩
    refine ⟨_, rfl, ?_⟩
    have hxx := cellsOf hu hqs
    obtain ⟨a, c, hq3, hcl, hcx⟩ := hxx
    subst hq3
    replace hcx : Texts _ _ _ := hcx
    replace hs := hs.call0 (hqs.dropR (L1 := []))
    refine WL.val rfl (run_move) ?_
    refine WL.val rfl (run_extract rfl rfl) ?_
    refine WL.val rfl (run_extract rfl rfl) ?_
    refine WL.val rfl (run_assign) ?_
    refine WL.val rfl (run_assign) ?_
    refine WL.nil ?_
    repeat (first | refine CW.seq ?_ | refine CW.block ?_ | refine CW.skip ?_ | refine CW.label ?_ | refine CW.exit ?_ | refine CW.condT rfl ?_ | refine CW.condF rfl ?_)
    refine CW.reg ?_
    refine WL.val rfl (run_move) ?_
    refine WL.enter rfl (run_call en20 rfl rfl) (cNb _ (hg.step hs)) ?_
    rintro e w ⟨u2, Lv, rfl, hv, hq2⟩
    refine ⟨_, rfl, ?_⟩
    have hyy := cellsOf hv hq2
    obtain ⟨a2, c2, hq4, hcl2, hcy⟩ := hyy
    subst hq4
    replace hcy : Texts _ _ _ := hcy
    have hcx2 : Texts _ _ _ := Sl0.keep hcx hq2
    replace hs := hs.call0 (hq2.dropR (L1 := []))
    refine WL.val rfl (run_move) ?_
    refine WL.val rfl (run_extract rfl rfl) ?_
    refine WL.val rfl (run_extract rfl rfl) ?_
    refine WL.val rfl (run_assign) ?_
    refine WL.val rfl (run_assign) ?_
    refine WL.nil ?_
    repeat (first | refine CW.seq ?_ | refine CW.block ?_ | refine CW.skip ?_ | refine CW.label ?_ | refine CW.exit ?_ | refine CW.condT rfl ?_ | refine CW.condF rfl ?_)
    refine CW.reg ?_
    refine WL.val rfl (run_move) ?_
    first | refine WL.val rfl (run_notB rfl) ?_ | refine WL.val rfl (run_not rfl) ?_
    refine WL.val rfl (run_move) ?_
    first | (refine WL.yes rfl rfl rfl ?_; refine WL.val rfl (run_move) ?_) | refine WL.no rfl rfl rfl (.inl rfl) ?_ | refine WL.no rfl rfl rfl (.inr rfl) ?_
    first | (refine WL.yes rfl rfl rfl ?_; (first | refine WL.val rfl (run_notB rfl) ?_ | refine WL.val rfl (run_not rfl) ?_)) | refine WL.no rfl rfl rfl (.inl rfl) ?_ | refine WL.no rfl rfl rfl (.inr rfl) ?_
    first | refine WL.val rfl (run_pickT rfl) ?_ | refine WL.val rfl (run_pickF rfl) ?_
    refine WL.nil ?_
    repeat (first | refine CW.seq ?_ | refine CW.block ?_ | refine CW.skip ?_ | refine CW.label ?_ | refine CW.exit ?_ | refine CW.condT rfl ?_ | refine CW.condF rfl ?_)
    refine CW.reg ?_
    refine WL.val rfl (run_move) ?_
    refine WL.val rfl (run_move) ?_
    refine WL.enter rfl (run_call en28 rfl rfl) (cS _ hcx2 hcy) ?_
    rintro e w ⟨rfl, hq⟩
    refine ⟨_, rfl, ?_⟩
    replace hs := hs.callE hq
    refine WL.val rfl (run_assign) ?_
    refine WL.nil ?_
    repeat (first | refine CW.seq ?_ | refine CW.block ?_ | refine CW.skip ?_ | refine CW.label ?_ | refine CW.exit ?_ | refine CW.condT rfl ?_ | refine CW.condF rfl ?_)
    refine CW.reg ?_
    refine WL.val rfl (run_move) ?_
    refine WL.val rfl (run_move) ?_
    refine WL.enter rfl (run_call en24 rfl rfl) (cLab _ (hg.step hs)) ?_
    rintro e w ⟨rfl, hq⟩
    refine ⟨_, rfl, ?_⟩
    replace hs := hs.callE hq
    refine WL.val rfl (run_assign) ?_
    refine WL.nil ?_
    repeat (first | refine CW.seq ?_ | refine CW.block ?_ | refine CW.skip ?_ | refine CW.label ?_ | refine CW.exit ?_ | refine CW.condT rfl ?_ | refine CW.condF rfl ?_)
    refine CW.reg ?_
    refine WL.val rfl (run_move) ?_
    refine WL.val rfl (run_move) ?_
    refine WL.enter rfl (run_call en24 rfl rfl) (cLba _ (hg.step hs)) ?_
    rintro e w ⟨rfl, hq⟩
    refine ⟨_, rfl, ?_⟩
    replace hs := hs.callE hq
    refine WL.val rfl (run_assign) ?_
    refine WL.nil ?_
    repeat (first | refine CW.seq ?_ | refine CW.block ?_ | refine CW.skip ?_ | refine CW.label ?_ | refine CW.exit ?_ | refine CW.condT rfl ?_ | refine CW.condF rfl ?_)
    refine CW.reg ?_
    refine WL.val rfl (run_move) ?_
    refine WL.val rfl (run_move) ?_
    first | (refine WL.yes rfl rfl rfl ?_; refine WL.val rfl (run_move) ?_) | refine WL.no rfl rfl rfl (.inl rfl) ?_ | refine WL.no rfl rfl rfl (.inr rfl) ?_
    first | (refine WL.yes rfl rfl rfl ?_; refine WL.val rfl (run_move) ?_) | refine WL.no rfl rfl rfl (.inl rfl) ?_ | refine WL.no rfl rfl rfl (.inr rfl) ?_
    first | (refine WL.yes rfl rfl rfl ?_; refine WL.val rfl (run_move) ?_) | refine WL.no rfl rfl rfl (.inl rfl) ?_ | refine WL.no rfl rfl rfl (.inr rfl) ?_
    first | (refine WL.yes rfl rfl rfl ?_; (first | refine WL.val rfl (run_pickT rfl) ?_ | refine WL.val rfl (run_pickF rfl) ?_)) | refine WL.no rfl rfl rfl (.inl rfl) ?_ | refine WL.no rfl rfl rfl (.inr rfl) ?_
    first | (refine WL.yes rfl rfl rfl ?_; refine WL.val rfl (run_move) ?_) | refine WL.no rfl rfl rfl (.inl rfl) ?_ | refine WL.no rfl rfl rfl (.inr rfl) ?_
    first | (refine WL.yes rfl rfl rfl ?_; refine WL.val rfl (run_move) ?_) | refine WL.no rfl rfl rfl (.inl rfl) ?_ | refine WL.no rfl rfl rfl (.inr rfl) ?_
    first | (refine WL.yes rfl rfl rfl ?_; refine WL.val rfl (run_move) ?_) | refine WL.no rfl rfl rfl (.inl rfl) ?_ | refine WL.no rfl rfl rfl (.inr rfl) ?_
    refine WL.yes rfl rfl rfl ?_
    refine WL.enter rfl (run_call en26 rfl rfl) (cUab _ (hg.step hs)) ?_
    rintro e w ⟨rfl, hq⟩
    refine ⟨_, rfl, ?_⟩
    replace hs := hs.callE hq
    first | (refine WL.yes rfl rfl rfl ?_; (first | refine WL.val rfl (run_notB rfl) ?_ | refine WL.val rfl (run_not rfl) ?_)) | refine WL.no rfl rfl rfl (.inl rfl) ?_ | refine WL.no rfl rfl rfl (.inr rfl) ?_
    first | (refine WL.yes rfl rfl rfl ?_; (first | refine WL.val rfl (run_pickT rfl) ?_ | refine WL.val rfl (run_pickF rfl) ?_)) | refine WL.no rfl rfl rfl (.inl rfl) ?_ | refine WL.no rfl rfl rfl (.inr rfl) ?_
    first | refine WL.val rfl (run_pickT rfl) ?_ | refine WL.val rfl (run_pickF rfl) ?_
    refine WL.val rfl (run_move) ?_
    first | (refine WL.yes rfl rfl rfl ?_; refine WL.val rfl (run_move) ?_) | refine WL.no rfl rfl rfl (.inl rfl) ?_ | refine WL.no rfl rfl rfl (.inr rfl) ?_
    first | (refine WL.yes rfl rfl rfl ?_; (first | refine WL.val rfl (run_notB rfl) ?_ | refine WL.val rfl (run_not rfl) ?_)) | refine WL.no rfl rfl rfl (.inl rfl) ?_ | refine WL.no rfl rfl rfl (.inr rfl) ?_
    first | (refine WL.yes rfl rfl rfl ?_; refine WL.val rfl (run_move) ?_) | refine WL.no rfl rfl rfl (.inl rfl) ?_ | refine WL.no rfl rfl rfl (.inr rfl) ?_
    first | (refine WL.yes rfl rfl rfl ?_; refine WL.val rfl (run_move) ?_) | refine WL.no rfl rfl rfl (.inl rfl) ?_ | refine WL.no rfl rfl rfl (.inr rfl) ?_
    first | (refine WL.yes rfl rfl rfl ?_; refine WL.val rfl (run_move) ?_) | refine WL.no rfl rfl rfl (.inl rfl) ?_ | refine WL.no rfl rfl rfl (.inr rfl) ?_
    first | (refine WL.yes rfl rfl rfl ?_; refine WL.val rfl (run_eqlB Tryd.underlying4 rfl rfl) ?_) | refine WL.no rfl rfl rfl (.inl rfl) ?_ | refine WL.no rfl rfl rfl (.inr rfl) ?_
    first | (refine WL.yes rfl rfl rfl ?_; (first | refine WL.val rfl (run_pickT rfl) ?_ | refine WL.val rfl (run_pickF rfl) ?_)) | refine WL.no rfl rfl rfl (.inl rfl) ?_ | refine WL.no rfl rfl rfl (.inr rfl) ?_
    first | refine WL.val rfl (run_pickT rfl) ?_ | refine WL.val rfl (run_pickF rfl) ?_
    refine WL.nil ?_
    repeat (first | refine CW.seq ?_ | refine CW.block ?_ | refine CW.skip ?_ | refine CW.label ?_ | refine CW.exit ?_ | refine CW.condT rfl ?_ | refine CW.condF rfl ?_)
    refine CW.reg ?_
    refine WL.val rfl (run_move) ?_
    refine WL.val rfl (run_move) ?_
    first | (refine WL.yes rfl rfl rfl ?_; refine WL.val rfl (run_move) ?_) | refine WL.no rfl rfl rfl (.inl rfl) ?_ | refine WL.no rfl rfl rfl (.inr rfl) ?_
    first | (refine WL.yes rfl rfl rfl ?_; refine WL.val rfl (run_move) ?_) | refine WL.no rfl rfl rfl (.inl rfl) ?_ | refine WL.no rfl rfl rfl (.inr rfl) ?_
    first | refine WL.no rfl rfl rfl (.inl rfl) ?_ | refine WL.no rfl rfl rfl (.inr rfl) ?_
    first | refine WL.val rfl (run_pickT rfl) ?_ | refine WL.val rfl (run_pickF rfl) ?_
    refine WL.val rfl (run_move) ?_
    first | (refine WL.yes rfl rfl rfl ?_; refine WL.val rfl (run_move) ?_) | refine WL.no rfl rfl rfl (.inl rfl) ?_ | refine WL.no rfl rfl rfl (.inr rfl) ?_
    first | (refine WL.yes rfl rfl rfl ?_; refine WL.val rfl (run_move) ?_) | refine WL.no rfl rfl rfl (.inl rfl) ?_ | refine WL.no rfl rfl rfl (.inr rfl) ?_
    first | refine WL.no rfl rfl rfl (.inl rfl) ?_ | refine WL.no rfl rfl rfl (.inr rfl) ?_
    first | (refine WL.yes rfl rfl rfl ?_; (first | refine WL.val rfl (run_notB rfl) ?_ | refine WL.val rfl (run_not rfl) ?_)) | refine WL.no rfl rfl rfl (.inl rfl) ?_ | refine WL.no rfl rfl rfl (.inr rfl) ?_
    first | refine WL.val rfl (run_pickT rfl) ?_ | refine WL.val rfl (run_pickF rfl) ?_
    refine WL.nil ?_
    repeat (first | refine CW.seq ?_ | refine CW.block ?_ | refine CW.skip ?_ | refine CW.label ?_ | refine CW.exit ?_ | refine CW.condT rfl ?_ | refine CW.condF rfl ?_)
    refine CW.reg ?_
    refine WL.val rfl (run_move) ?_
    refine WL.val rfl (run_move) ?_
    refine WL.enter rfl (run_call en26 rfl rfl) (cUab _ (hg.step hs)) ?_
    rintro e w ⟨rfl, hq⟩
    refine ⟨_, rfl, ?_⟩
    replace hs := hs.callE hq
    refine WL.val rfl (run_move) ?_
    first | (refine WL.yes rfl rfl rfl ?_; refine WL.val rfl (run_move) ?_) | refine WL.no rfl rfl rfl (.inl rfl) ?_ | refine WL.no rfl rfl rfl (.inr rfl) ?_
    first | (refine WL.yes rfl rfl rfl ?_; (first | refine WL.val rfl (run_notB rfl) ?_ | refine WL.val rfl (run_not rfl) ?_)) | refine WL.no rfl rfl rfl (.inl rfl) ?_ | refine WL.no rfl rfl rfl (.inr rfl) ?_
    first | refine WL.val rfl (run_pickT rfl) ?_ | refine WL.val rfl (run_pickF rfl) ?_
    refine WL.val rfl (run_move) ?_
    first | (refine WL.yes rfl rfl rfl ?_; refine WL.val rfl (run_move) ?_) | refine WL.no rfl rfl rfl (.inl rfl) ?_ | refine WL.no rfl rfl rfl (.inr rfl) ?_
    first | (refine WL.yes rfl rfl rfl ?_; (first | refine WL.val rfl (run_notB rfl) ?_ | refine WL.val rfl (run_not rfl) ?_)) | refine WL.no rfl rfl rfl (.inl rfl) ?_ | refine WL.no rfl rfl rfl (.inr rfl) ?_
    first | refine WL.val rfl (run_pickT rfl) ?_ | refine WL.val rfl (run_pickF rfl) ?_
    refine WL.nil ?_
    cases uac with
    | false =>
      repeat (first | refine CW.seq ?_ | refine CW.block ?_ | refine CW.skip ?_ | refine CW.label ?_ | refine CW.exit ?_ | refine CW.condT rfl ?_ | refine CW.condF rfl ?_)
      refine CW.reg ?_
      refine WL.val rfl (run_move) ?_
      refine WL.val rfl (run_move) ?_
      refine WL.enter rfl (run_call en26 rfl rfl) (cUac _ (hg.step hs)) ?_
      rintro e w ⟨rfl, hq⟩
      refine ⟨_, rfl, ?_⟩
      replace hs := hs.callE hq
      first | refine WL.val rfl (run_notB rfl) ?_ | refine WL.val rfl (run_not rfl) ?_
      refine WL.val rfl (run_move) ?_
      first | (refine WL.yes rfl rfl rfl ?_; refine WL.val rfl (run_move) ?_) | refine WL.no rfl rfl rfl (.inl rfl) ?_ | refine WL.no rfl rfl rfl (.inr rfl) ?_
      first | (refine WL.yes rfl rfl rfl ?_; (first | refine WL.val rfl (run_notB rfl) ?_ | refine WL.val rfl (run_not rfl) ?_)) | refine WL.no rfl rfl rfl (.inl rfl) ?_ | refine WL.no rfl rfl rfl (.inr rfl) ?_
      first | refine WL.val rfl (run_pickT rfl) ?_ | refine WL.val rfl (run_pickF rfl) ?_
      refine WL.val rfl (run_move) ?_
      first | (refine WL.yes rfl rfl rfl ?_; refine WL.val rfl (run_move) ?_) | refine WL.no rfl rfl rfl (.inl rfl) ?_ | refine WL.no rfl rfl rfl (.inr rfl) ?_
      first | (refine WL.yes rfl rfl rfl ?_; refine WL.val rfl (run_move) ?_) | refine WL.no rfl rfl rfl (.inl rfl) ?_ | refine WL.no rfl rfl rfl (.inr rfl) ?_
      first | refine WL.no rfl rfl rfl (.inl rfl) ?_ | refine WL.no rfl rfl rfl (.inr rfl) ?_
      first | (refine WL.yes rfl rfl rfl ?_; (first | refine WL.val rfl (run_notB rfl) ?_ | refine WL.val rfl (run_not rfl) ?_)) | refine WL.no rfl rfl rfl (.inl rfl) ?_ | refine WL.no rfl rfl rfl (.inr rfl) ?_
      first | refine WL.val rfl (run_pickT rfl) ?_ | refine WL.val rfl (run_pickF rfl) ?_
      refine WL.val rfl (run_move) ?_
      first | (refine WL.yes rfl rfl rfl ?_; refine WL.val rfl (run_move) ?_) | refine WL.no rfl rfl rfl (.inl rfl) ?_ | refine WL.no rfl rfl rfl (.inr rfl) ?_
      first | (refine WL.yes rfl rfl rfl ?_; refine WL.val rfl (run_move) ?_) | refine WL.no rfl rfl rfl (.inl rfl) ?_ | refine WL.no rfl rfl rfl (.inr rfl) ?_
      first | refine WL.no rfl rfl rfl (.inl rfl) ?_ | refine WL.no rfl rfl rfl (.inr rfl) ?_
      first | refine WL.val rfl (run_pickT rfl) ?_ | refine WL.val rfl (run_pickF rfl) ?_
      refine WL.val rfl (run_assign) ?_
      refine WL.nil ?_
      repeat (first | refine CW.seq ?_ | refine CW.block ?_ | refine CW.skip ?_ | refine CW.label ?_ | refine CW.exit ?_ | refine CW.condT rfl ?_ | refine CW.condF rfl ?_)
      refine CW.ret ?_
      refine fin_ret1 rfl ?_
      exact ⟨rfl, hs⟩
    | true =>
      repeat (first | refine CW.seq ?_ | refine CW.block ?_ | refine CW.skip ?_ | refine CW.label ?_ | refine CW.exit ?_ | refine CW.condT rfl ?_ | refine CW.condF rfl ?_)
      refine CW.reg ?_
      refine WL.val rfl (run_move) ?_
      refine WL.val rfl (run_move) ?_
      refine WL.enter rfl (run_call en26 rfl rfl) (cUac _ (hg.step hs)) ?_
      rintro e w ⟨rfl, hq⟩
      refine ⟨_, rfl, ?_⟩
      replace hs := hs.callE hq
      first | refine WL.val rfl (run_notB rfl) ?_ | refine WL.val rfl (run_not rfl) ?_
      refine WL.val rfl (run_move) ?_
      first | (refine WL.yes rfl rfl rfl ?_; refine WL.val rfl (run_move) ?_) | refine WL.no rfl rfl rfl (.inl rfl) ?_ | refine WL.no rfl rfl rfl (.inr rfl) ?_
      first | (refine WL.yes rfl rfl rfl ?_; (first | refine WL.val rfl (run_notB rfl) ?_ | refine WL.val rfl (run_not rfl) ?_)) | refine WL.no rfl rfl rfl (.inl rfl) ?_ | refine WL.no rfl rfl rfl (.inr rfl) ?_
      first | refine WL.val rfl (run_pickT rfl) ?_ | refine WL.val rfl (run_pickF rfl) ?_
      refine WL.val rfl (run_move) ?_
      first | (refine WL.yes rfl rfl rfl ?_; refine WL.val rfl (run_move) ?_) | refine WL.no rfl rfl rfl (.inl rfl) ?_ | refine WL.no rfl rfl rfl (.inr rfl) ?_
      first | (refine WL.yes rfl rfl rfl ?_; refine WL.val rfl (run_move) ?_) | refine WL.no rfl rfl rfl (.inl rfl) ?_ | refine WL.no rfl rfl rfl (.inr rfl) ?_
      first | refine WL.no rfl rfl rfl (.inl rfl) ?_ | refine WL.no rfl rfl rfl (.inr rfl) ?_
      first | (refine WL.yes rfl rfl rfl ?_; (first | refine WL.val rfl (run_notB rfl) ?_ | refine WL.val rfl (run_not rfl) ?_)) | refine WL.no rfl rfl rfl (.inl rfl) ?_ | refine WL.no rfl rfl rfl (.inr rfl) ?_
      first | refine WL.val rfl (run_pickT rfl) ?_ | refine WL.val rfl (run_pickF rfl) ?_
      refine WL.val rfl (run_move) ?_
      first | (refine WL.yes rfl rfl rfl ?_; refine WL.val rfl (run_move) ?_) | refine WL.no rfl rfl rfl (.inl rfl) ?_ | refine WL.no rfl rfl rfl (.inr rfl) ?_
      first | (refine WL.yes rfl rfl rfl ?_; refine WL.val rfl (run_move) ?_) | refine WL.no rfl rfl rfl (.inl rfl) ?_ | refine WL.no rfl rfl rfl (.inr rfl) ?_
      first | refine WL.no rfl rfl rfl (.inl rfl) ?_ | refine WL.no rfl rfl rfl (.inr rfl) ?_
      first | refine WL.val rfl (run_pickT rfl) ?_ | refine WL.val rfl (run_pickF rfl) ?_
      refine WL.val rfl (run_assign) ?_
      refine WL.nil ?_
      repeat (first | refine CW.seq ?_ | refine CW.block ?_ | refine CW.skip ?_ | refine CW.label ?_ | refine CW.exit ?_ | refine CW.condT rfl ?_ | refine CW.condF rfl ?_)
      refine CW.ret ?_
      refine fin_ret1 rfl ?_
      exact ⟨rfl, hs⟩
  · have cS := fun {a a2 c c2} w (h1 : Texts w a x) (h2 : Texts w a2 y) => same_spec3 (c := c) (c2 := c2) w h1 h2 (by omega) (by omega)
    simp only [decide_eq_false hxy] at cS
    have hobt : ∃ b, ltR x y = b := ⟨_, rfl⟩
    obtain ⟨ab, hab⟩ := hobt
    have hobt : ∃ b, underL x y = b := ⟨_, rfl⟩
    obtain ⟨uab, huab⟩ := hobt
    have hba : ltR y x = !ab := by
      cases ab with
      | true => exact ltR_asym hab
      | false => exact ltR_tri hxy hab
    simp only [hab] at cLab
    simp only [hba] at cLba
    simp only [huab] at cUab
    have hobt : ∃ b, ltR x z = b := ⟨_, rfl⟩
    obtain ⟨ac, hac⟩ := hobt
    have hobt : ∃ b, underL x z = b := ⟨_, rfl⟩
    obtain ⟨uac, huac⟩ := hobt
    have hobt : ∃ b, ltR y z = b := ⟨_, rfl⟩
    obtain ⟨bc, hbc⟩ := hobt
    simp only [hbc] at cLbc
    simp only [hac] at cLac
    simp only [huac] at cUac
    cases ab with
    | false =>
      have hua : uab = false := by
        cases uab with
        | false => rfl
        | true => rw [ltR_under huab hxy] at hab; cases hab
      subst hua
      refine calls (n := 118) Tryd.func8 rfl rfl rfl ?_
      repeat (first | refine CW.seq ?_ | refine CW.block ?_ | refine CW.skip ?_ | refine CW.label ?_ | refine CW.exit ?_ | refine CW.condT rfl ?_ | refine CW.condF rfl ?_)
      refine CW.reg ?_
      refine WL.val rfl (run_assign) ?_
      refine WL.nil ?_
      repeat (first | refine CW.seq ?_ | refine CW.block ?_ | refine CW.skip ?_ | refine CW.label ?_ | refine CW.exit ?_ | refine CW.condT rfl ?_ | refine CW.condF rfl ?_)
      refine CW.reg ?_
      refine WL.enter rfl (run_call en11 rfl rfl) (hk _ hg) ?_
      rintro e w ⟨rfl, hq⟩
      refine ⟨_, rfl, ?_⟩
      replace hs := hs.callE hq
      first | refine WL.val rfl (run_notB rfl) ?_ | refine WL.val rfl (run_not rfl) ?_
      refine WL.nil ?_
      repeat (first | refine CW.seq ?_ | refine CW.block ?_ | refine CW.skip ?_ | refine CW.label ?_ | refine CW.exit ?_ | refine CW.condT rfl ?_ | refine CW.condF rfl ?_)
      refine CW.reg ?_
      refine WL.val rfl (run_move) ?_
      refine WL.val rfl (run_lenStr Tryd.underlying9 rfl) ?_
      refine WL.val rfl (run_bF (run_gtr rfl rfl) (by omega)) ?_
      refine WL.val rfl (run_move) ?_
      first | (refine WL.yes rfl rfl rfl ?_; refine WL.val rfl (run_move) ?_) | refine WL.no rfl rfl rfl (.inl rfl) ?_ | refine WL.no rfl rfl rfl (.inr rfl) ?_
      first | (refine WL.yes rfl rfl rfl ?_; refine WL.val rfl (run_lenStr Tryd.underlying9 rfl) ?_) | refine WL.no rfl rfl rfl (.inl rfl) ?_ | refine WL.no rfl rfl rfl (.inr rfl) ?_
      refine WL.yes rfl rfl rfl ?_
      refine WL.val rfl (run_bF (run_gtr rfl rfl) (by omega)) ?_
      first | refine WL.val rfl (run_pickT rfl) ?_ | refine WL.val rfl (run_pickF rfl) ?_
      refine WL.val rfl (run_move) ?_
      first | (refine WL.yes rfl rfl rfl ?_; refine WL.val rfl (run_move) ?_) | refine WL.no rfl rfl rfl (.inl rfl) ?_ | refine WL.no rfl rfl rfl (.inr rfl) ?_
      first | (refine WL.yes rfl rfl rfl ?_; refine WL.val rfl (run_lenStr Tryd.underlying9 rfl) ?_) | refine WL.no rfl rfl rfl (.inl rfl) ?_ | refine WL.no rfl rfl rfl (.inr rfl) ?_
      refine WL.yes rfl rfl rfl ?_
      refine WL.val rfl (run_bF (run_gtr rfl rfl) (by omega)) ?_
      first | refine WL.val rfl (run_pickT rfl) ?_ | refine WL.val rfl (run_pickF rfl) ?_
      refine WL.nil ?_
      repeat (first | refine CW.seq ?_ | refine CW.block ?_ | refine CW.skip ?_ | refine CW.label ?_ | refine CW.exit ?_ | refine CW.condT rfl ?_ | refine CW.condF rfl ?_)
      refine CW.reg ?_
      refine WL.val rfl (run_move) ?_
      refine WL.enter rfl (run_call en20 rfl rfl) (cNa _ (hg.step hs)) ?_
      rintro e w ⟨u, Lu, rfl, hu, hqs⟩
      refine ⟨_, rfl, ?_⟩
      have hxx := cellsOf hu hqs
      obtain ⟨a, c, hq3, hcl, hcx⟩ := hxx
      subst hq3
      replace hcx : Texts _ _ _ := hcx
      replace hs := hs.call0 (hqs.dropR (L1 := []))
      refine WL.val rfl (run_move) ?_
      refine WL.val rfl (run_extract rfl rfl) ?_
      refine WL.val rfl (run_extract rfl rfl) ?_
      refine WL.val rfl (run_assign) ?_
      refine WL.val rfl (run_assign) ?_
      refine WL.nil ?_
      repeat (first | refine CW.seq ?_ | refine CW.block ?_ | refine CW.skip ?_ | refine CW.label ?_ | refine CW.exit ?_ | refine CW.condT rfl ?_ | refine CW.condF rfl ?_)
      refine CW.reg ?_
      refine WL.val rfl (run_move) ?_
      refine WL.enter rfl (run_call en20 rfl rfl) (cNb _ (hg.step hs)) ?_
      rintro e w ⟨u2, Lv, rfl, hv, hq2⟩
      refine ⟨_, rfl, ?_⟩
      have hyy := cellsOf hv hq2
      obtain ⟨a2, c2, hq4, hcl2, hcy⟩ := hyy
      subst hq4
      replace hcy : Texts _ _ _ := hcy
      have hcx2 : Texts _ _ _ := Sl0.keep hcx hq2
      replace hs := hs.call0 (hq2.dropR (L1 := []))
      refine WL.val rfl (run_move) ?_
      refine WL.val rfl (run_extract rfl rfl) ?_
      refine WL.val rfl (run_extract rfl rfl) ?_
      refine WL.val rfl (run_assign) ?_
      refine WL.val rfl (run_assign) ?_
      refine WL.nil ?_
      repeat (first | refine CW.seq ?_ | refine CW.block ?_ | refine CW.skip ?_ | refine CW.label ?_ | refine CW.exit ?_ | refine CW.condT rfl ?_ | refine CW.condF rfl ?_)
      refine CW.reg ?_
      refine WL.val rfl (run_move) ?_
      first | refine WL.val rfl (run_notB rfl) ?_ | refine WL.val rfl (run_not rfl) ?_
      refine WL.val rfl (run_move) ?_
      first | (refine WL.yes rfl rfl rfl ?_; refine WL.val rfl (run_move) ?_) | refine WL.no rfl rfl rfl (.inl rfl) ?_ | refine WL.no rfl rfl rfl (.inr rfl) ?_
      first | (refine WL.yes rfl rfl rfl ?_; (first | refine WL.val rfl (run_notB rfl) ?_ | refine WL.val rfl (run_not rfl) ?_)) | refine WL.no rfl rfl rfl (.inl rfl) ?_ | refine WL.no rfl rfl rfl (.inr rfl) ?_
      first | refine WL.val rfl (run_pickT rfl) ?_ | refine WL.val rfl (run_pickF rfl) ?_
      refine WL.nil ?_
      repeat (first | refine CW.seq ?_ | refine CW.block ?_ | refine CW.skip ?_ | refine CW.label ?_ | refine CW.exit ?_ | refine CW.condT rfl ?_ | refine CW.condF rfl ?_)
      refine CW.reg ?_
      refine WL.val rfl (run_move) ?_
      refine WL.val rfl (run_move) ?_
      refine WL.enter rfl (run_call en28 rfl rfl) (cS _ hcx2 hcy) ?_
      rintro e w ⟨rfl, hq⟩
      refine ⟨_, rfl, ?_⟩
      replace hs := hs.callE hq
      refine WL.val rfl (run_assign) ?_
      refine WL.nil ?_
      repeat (first | refine CW.seq ?_ | refine CW.block ?_ | refine CW.skip ?_ | refine CW.label ?_ | refine CW.exit ?_ | refine CW.condT rfl ?_ | refine CW.condF rfl ?_)
      refine CW.reg ?_
      refine WL.val rfl (run_move) ?_
      refine WL.val rfl (run_move) ?_
      refine WL.enter rfl (run_call en24 rfl rfl) (cLab _ (hg.step hs)) ?_
      rintro e w ⟨rfl, hq⟩
      refine ⟨_, rfl, ?_⟩
      replace hs := hs.callE hq
      refine WL.val rfl (run_assign) ?_
      refine WL.nil ?_
      repeat (first | refine CW.seq ?_ | refine CW.block ?_ | refine CW.skip ?_ | refine CW.label ?_ | refine CW.exit ?_ | refine CW.condT rfl ?_ | refine CW.condF rfl ?_)
      refine CW.reg ?_
      refine WL.val rfl (run_move) ?_
      refine WL.val rfl (run_move) ?_
      refine WL.enter rfl (run_call en24 rfl rfl) (cLba _ (hg.step hs)) ?_
      rintro e w ⟨rfl, hq⟩
      refine ⟨_, rfl, ?_⟩
      replace hs := hs.callE hq
      refine WL.val rfl (run_assign) ?_
      refine WL.nil ?_
      repeat (first | refine CW.seq ?_ | refine CW.block ?_ | refine CW.skip ?_ | refine CW.label ?_ | refine CW.exit ?_ | refine CW.condT rfl ?_ | refine CW.condF rfl ?_)
      refine CW.reg ?_
      refine WL.val rfl (run_move) ?_
      refine WL.val rfl (run_move) ?_
      first | (refine WL.yes rfl rfl rfl ?_; refine WL.val rfl (run_move) ?_) | refine WL.no rfl rfl rfl (.inl rfl) ?_ | refine WL.no rfl rfl rfl (.inr rfl) ?_
      first | (refine WL.yes rfl rfl rfl ?_; refine WL.val rfl (run_move) ?_) | refine WL.no rfl rfl rfl (.inl rfl) ?_ | refine WL.no rfl rfl rfl (.inr rfl) ?_
      first | (refine WL.yes rfl rfl rfl ?_; refine WL.val rfl (run_move) ?_) | refine WL.no rfl rfl rfl (.inl rfl) ?_ | refine WL.no rfl rfl rfl (.inr rfl) ?_
      first | (refine WL.yes rfl rfl rfl ?_; (first | refine WL.val rfl (run_pickT rfl) ?_ | refine WL.val rfl (run_pickF rfl) ?_)) | refine WL.no rfl rfl rfl (.inl rfl) ?_ | refine WL.no rfl rfl rfl (.inr rfl) ?_
      first | (refine WL.yes rfl rfl rfl ?_; refine WL.val rfl (run_move) ?_) | refine WL.no rfl rfl rfl (.inl rfl) ?_ | refine WL.no rfl rfl rfl (.inr rfl) ?_
      first | (refine WL.yes rfl rfl rfl ?_; refine WL.val rfl (run_move) ?_) | refine WL.no rfl rfl rfl (.inl rfl) ?_ | refine WL.no rfl rfl rfl (.inr rfl) ?_
      first | (refine WL.yes rfl rfl rfl ?_; refine WL.val rfl (run_move) ?_) | refine WL.no rfl rfl rfl (.inl rfl) ?_ | refine WL.no rfl rfl rfl (.inr rfl) ?_
      first | refine WL.no rfl rfl rfl (.inl rfl) ?_ | refine WL.no rfl rfl rfl (.inr rfl) ?_
      first | (refine WL.yes rfl rfl rfl ?_; (first | refine WL.val rfl (run_notB rfl) ?_ | refine WL.val rfl (run_not rfl) ?_)) | refine WL.no rfl rfl rfl (.inl rfl) ?_ | refine WL.no rfl rfl rfl (.inr rfl) ?_
      first | (refine WL.yes rfl rfl rfl ?_; (first | refine WL.val rfl (run_pickT rfl) ?_ | refine WL.val rfl (run_pickF rfl) ?_)) | refine WL.no rfl rfl rfl (.inl rfl) ?_ | refine WL.no rfl rfl rfl (.inr rfl) ?_
      first | refine WL.val rfl (run_pickT rfl) ?_ | refine WL.val rfl (run_pickF rfl) ?_
      refine WL.val rfl (run_move) ?_
      first | (refine WL.yes rfl rfl rfl ?_; refine WL.val rfl (run_move) ?_) | refine WL.no rfl rfl rfl (.inl rfl) ?_ | refine WL.no rfl rfl rfl (.inr rfl) ?_
      first | (refine WL.yes rfl rfl rfl ?_; (first | refine WL.val rfl (run_notB rfl) ?_ | refine WL.val rfl (run_not rfl) ?_)) | refine WL.no rfl rfl rfl (.inl rfl) ?_ | refine WL.no rfl rfl rfl (.inr rfl) ?_
      first | (refine WL.yes rfl rfl rfl ?_; refine WL.val rfl (run_move) ?_) | refine WL.no rfl rfl rfl (.inl rfl) ?_ | refine WL.no rfl rfl rfl (.inr rfl) ?_
      first | (refine WL.yes rfl rfl rfl ?_; refine WL.val rfl (run_move) ?_) | refine WL.no rfl rfl rfl (.inl rfl) ?_ | refine WL.no rfl rfl rfl (.inr rfl) ?_
      first | (refine WL.yes rfl rfl rfl ?_; refine WL.val rfl (run_move) ?_) | refine WL.no rfl rfl rfl (.inl rfl) ?_ | refine WL.no rfl rfl rfl (.inr rfl) ?_
      refine WL.yes rfl rfl rfl ?_
      refine WL.val rfl (run_bE (run_eqlB Tryd.underlying4 rfl rfl) (show _ = false from rfl)) ?_
      first | (refine WL.yes rfl rfl rfl ?_; (first | refine WL.val rfl (run_pickT rfl) ?_ | refine WL.val rfl (run_pickF rfl) ?_)) | refine WL.no rfl rfl rfl (.inl rfl) ?_ | refine WL.no rfl rfl rfl (.inr rfl) ?_
      first | refine WL.val rfl (run_pickT rfl) ?_ | refine WL.val rfl (run_pickF rfl) ?_
      refine WL.nil ?_
      repeat (first | refine CW.seq ?_ | refine CW.block ?_ | refine CW.skip ?_ | refine CW.label ?_ | refine CW.exit ?_ | refine CW.condT rfl ?_ | refine CW.condF rfl ?_)
      refine CW.reg ?_
      refine WL.val rfl (run_move) ?_
      refine WL.val rfl (run_move) ?_
      first | (refine WL.yes rfl rfl rfl ?_; refine WL.val rfl (run_move) ?_) | refine WL.no rfl rfl rfl (.inl rfl) ?_ | refine WL.no rfl rfl rfl (.inr rfl) ?_
      first | (refine WL.yes rfl rfl rfl ?_; refine WL.val rfl (run_move) ?_) | refine WL.no rfl rfl rfl (.inl rfl) ?_ | refine WL.no rfl rfl rfl (.inr rfl) ?_
      first | refine WL.no rfl rfl rfl (.inl rfl) ?_ | refine WL.no rfl rfl rfl (.inr rfl) ?_
      first | refine WL.val rfl (run_pickT rfl) ?_ | refine WL.val rfl (run_pickF rfl) ?_
      refine WL.val rfl (run_move) ?_
      first | (refine WL.yes rfl rfl rfl ?_; refine WL.val rfl (run_move) ?_) | refine WL.no rfl rfl rfl (.inl rfl) ?_ | refine WL.no rfl rfl rfl (.inr rfl) ?_
      first | (refine WL.yes rfl rfl rfl ?_; refine WL.val rfl (run_move) ?_) | refine WL.no rfl rfl rfl (.inl rfl) ?_ | refine WL.no rfl rfl rfl (.inr rfl) ?_
      first | refine WL.no rfl rfl rfl (.inl rfl) ?_ | refine WL.no rfl rfl rfl (.inr rfl) ?_
      first | (refine WL.yes rfl rfl rfl ?_; (first | refine WL.val rfl (run_notB rfl) ?_ | refine WL.val rfl (run_not rfl) ?_)) | refine WL.no rfl rfl rfl (.inl rfl) ?_ | refine WL.no rfl rfl rfl (.inr rfl) ?_
      first | refine WL.val rfl (run_pickT rfl) ?_ | refine WL.val rfl (run_pickF rfl) ?_
      refine WL.nil ?_
      repeat (first | refine CW.seq ?_ | refine CW.block ?_ | refine CW.skip ?_ | refine CW.label ?_ | refine CW.exit ?_ | refine CW.condT rfl ?_ | refine CW.condF rfl ?_)
      refine CW.reg ?_
      refine WL.val rfl (run_move) ?_
      refine WL.val rfl (run_move) ?_
      refine WL.enter rfl (run_call en26 rfl rfl) (cUab _ (hg.step hs)) ?_
      rintro e w ⟨rfl, hq⟩
      refine ⟨_, rfl, ?_⟩
      replace hs := hs.callE hq
      refine WL.val rfl (run_move) ?_
      first | (refine WL.yes rfl rfl rfl ?_; refine WL.val rfl (run_move) ?_) | refine WL.no rfl rfl rfl (.inl rfl) ?_ | refine WL.no rfl rfl rfl (.inr rfl) ?_
      first | (refine WL.yes rfl rfl rfl ?_; (first | refine WL.val rfl (run_notB rfl) ?_ | refine WL.val rfl (run_not rfl) ?_)) | refine WL.no rfl rfl rfl (.inl rfl) ?_ | refine WL.no rfl rfl rfl (.inr rfl) ?_
      first | refine WL.val rfl (run_pickT rfl) ?_ | refine WL.val rfl (run_pickF rfl) ?_
      refine WL.val rfl (run_move) ?_
      first | (refine WL.yes rfl rfl rfl ?_; refine WL.val rfl (run_move) ?_) | refine WL.no rfl rfl rfl (.inl rfl) ?_ | refine WL.no rfl rfl rfl (.inr rfl) ?_
      first | (refine WL.yes rfl rfl rfl ?_; (first | refine WL.val rfl (run_notB rfl) ?_ | refine WL.val rfl (run_not rfl) ?_)) | refine WL.no rfl rfl rfl (.inl rfl) ?_ | refine WL.no rfl rfl rfl (.inr rfl) ?_
      first | refine WL.val rfl (run_pickT rfl) ?_ | refine WL.val rfl (run_pickF rfl) ?_
      refine WL.nil ?_
      cases uac with
      | false =>
        repeat (first | refine CW.seq ?_ | refine CW.block ?_ | refine CW.skip ?_ | refine CW.label ?_ | refine CW.exit ?_ | refine CW.condT rfl ?_ | refine CW.condF rfl ?_)
        refine CW.reg ?_
        refine WL.val rfl (run_move) ?_
        refine WL.val rfl (run_move) ?_
        refine WL.enter rfl (run_call en26 rfl rfl) (cUac _ (hg.step hs)) ?_
        rintro e w ⟨rfl, hq⟩
        refine ⟨_, rfl, ?_⟩
        replace hs := hs.callE hq
        first | refine WL.val rfl (run_notB rfl) ?_ | refine WL.val rfl (run_not rfl) ?_
        refine WL.val rfl (run_move) ?_
        first | (refine WL.yes rfl rfl rfl ?_; refine WL.val rfl (run_move) ?_) | refine WL.no rfl rfl rfl (.inl rfl) ?_ | refine WL.no rfl rfl rfl (.inr rfl) ?_
        first | (refine WL.yes rfl rfl rfl ?_; (first | refine WL.val rfl (run_notB rfl) ?_ | refine WL.val rfl (run_not rfl) ?_)) | refine WL.no rfl rfl rfl (.inl rfl) ?_ | refine WL.no rfl rfl rfl (.inr rfl) ?_
        first | refine WL.val rfl (run_pickT rfl) ?_ | refine WL.val rfl (run_pickF rfl) ?_
        refine WL.val rfl (run_move) ?_
        first | (refine WL.yes rfl rfl rfl ?_; refine WL.val rfl (run_move) ?_) | refine WL.no rfl rfl rfl (.inl rfl) ?_ | refine WL.no rfl rfl rfl (.inr rfl) ?_
        first | (refine WL.yes rfl rfl rfl ?_; refine WL.val rfl (run_move) ?_) | refine WL.no rfl rfl rfl (.inl rfl) ?_ | refine WL.no rfl rfl rfl (.inr rfl) ?_
        first | refine WL.no rfl rfl rfl (.inl rfl) ?_ | refine WL.no rfl rfl rfl (.inr rfl) ?_
        first | (refine WL.yes rfl rfl rfl ?_; (first | refine WL.val rfl (run_notB rfl) ?_ | refine WL.val rfl (run_not rfl) ?_)) | refine WL.no rfl rfl rfl (.inl rfl) ?_ | refine WL.no rfl rfl rfl (.inr rfl) ?_
        first | refine WL.val rfl (run_pickT rfl) ?_ | refine WL.val rfl (run_pickF rfl) ?_
        refine WL.val rfl (run_move) ?_
        first | (refine WL.yes rfl rfl rfl ?_; refine WL.val rfl (run_move) ?_) | refine WL.no rfl rfl rfl (.inl rfl) ?_ | refine WL.no rfl rfl rfl (.inr rfl) ?_
        first | (refine WL.yes rfl rfl rfl ?_; refine WL.val rfl (run_move) ?_) | refine WL.no rfl rfl rfl (.inl rfl) ?_ | refine WL.no rfl rfl rfl (.inr rfl) ?_
        first | refine WL.no rfl rfl rfl (.inl rfl) ?_ | refine WL.no rfl rfl rfl (.inr rfl) ?_
        first | refine WL.val rfl (run_pickT rfl) ?_ | refine WL.val rfl (run_pickF rfl) ?_
        refine WL.val rfl (run_assign) ?_
        refine WL.nil ?_
        repeat (first | refine CW.seq ?_ | refine CW.block ?_ | refine CW.skip ?_ | refine CW.label ?_ | refine CW.exit ?_ | refine CW.condT rfl ?_ | refine CW.condF rfl ?_)
        refine CW.ret ?_
        refine fin_ret1 rfl ?_
        exact ⟨rfl, hs⟩
      | true =>
        repeat (first | refine CW.seq ?_ | refine CW.block ?_ | refine CW.skip ?_ | refine CW.label ?_ | refine CW.exit ?_ | refine CW.condT rfl ?_ | refine CW.condF rfl ?_)
        refine CW.reg ?_
        refine WL.val rfl (run_move) ?_
        refine WL.val rfl (run_move) ?_
        refine WL.enter rfl (run_call en26 rfl rfl) (cUac _ (hg.step hs)) ?_
        rintro e w ⟨rfl, hq⟩
        refine ⟨_, rfl, ?_⟩
        replace hs := hs.callE hq
        first | refine WL.val rfl (run_notB rfl) ?_ | refine WL.val rfl (run_not rfl) ?_
        refine WL.val rfl (run_move) ?_
        first | (refine WL.yes rfl rfl rfl ?_; refine WL.val rfl (run_move) ?_) | refine WL.no rfl rfl rfl (.inl rfl) ?_ | refine WL.no rfl rfl rfl (.inr rfl) ?_
        first | (refine WL.yes rfl rfl rfl ?_; (first | refine WL.val rfl (run_notB rfl) ?_ | refine WL.val rfl (run_not rfl) ?_)) | refine WL.no rfl rfl rfl (.inl rfl) ?_ | refine WL.no rfl rfl rfl (.inr rfl) ?_
        first | refine WL.val rfl (run_pickT rfl) ?_ | refine WL.val rfl (run_pickF rfl) ?_
        refine WL.val rfl (run_move) ?_
        first | (refine WL.yes rfl rfl rfl ?_; refine WL.val rfl (run_move) ?_) | refine WL.no rfl rfl rfl (.inl rfl) ?_ | refine WL.no rfl rfl rfl (.inr rfl) ?_
        first | (refine WL.yes rfl rfl rfl ?_; refine WL.val rfl (run_move) ?_) | refine WL.no rfl rfl rfl (.inl rfl) ?_ | refine WL.no rfl rfl rfl (.inr rfl) ?_
        first | refine WL.no rfl rfl rfl (.inl rfl) ?_ | refine WL.no rfl rfl rfl (.inr rfl) ?_
        first | (refine WL.yes rfl rfl rfl ?_; (first | refine WL.val rfl (run_notB rfl) ?_ | refine WL.val rfl (run_not rfl) ?_)) | refine WL.no rfl rfl rfl (.inl rfl) ?_ | refine WL.no rfl rfl rfl (.inr rfl) ?_
        first | refine WL.val rfl (run_pickT rfl) ?_ | refine WL.val rfl (run_pickF rfl) ?_
        refine WL.val rfl (run_move) ?_
        first | (refine WL.yes rfl rfl rfl ?_; refine WL.val rfl (run_move) ?_) | refine WL.no rfl rfl rfl (.inl rfl) ?_ | refine WL.no rfl rfl rfl (.inr rfl) ?_
        first | (refine WL.yes rfl rfl rfl ?_; refine WL.val rfl (run_move) ?_) | refine WL.no rfl rfl rfl (.inl rfl) ?_ | refine WL.no rfl rfl rfl (.inr rfl) ?_
        first | refine WL.no rfl rfl rfl (.inl rfl) ?_ | refine WL.no rfl rfl rfl (.inr rfl) ?_
        first | refine WL.val rfl (run_pickT rfl) ?_ | refine WL.val rfl (run_pickF rfl) ?_
        refine WL.val rfl (run_assign) ?_
        refine WL.nil ?_
        repeat (first | refine CW.seq ?_ | refine CW.block ?_ | refine CW.skip ?_ | refine CW.label ?_ | refine CW.exit ?_ | refine CW.condT rfl ?_ | refine CW.condF rfl ?_)
        refine CW.ret ?_
        refine fin_ret1 rfl ?_
        exact ⟨rfl, hs⟩
    | true =>
      cases bc with
      | false =>
        cases uab with
        | false =>
          refine calls (n := 118) Tryd.func8 rfl rfl rfl ?_
          repeat (first | refine CW.seq ?_ | refine CW.block ?_ | refine CW.skip ?_ | refine CW.label ?_ | refine CW.exit ?_ | refine CW.condT rfl ?_ | refine CW.condF rfl ?_)
          refine CW.reg ?_
          refine WL.val rfl (run_assign) ?_
          refine WL.nil ?_
          repeat (first | refine CW.seq ?_ | refine CW.block ?_ | refine CW.skip ?_ | refine CW.label ?_ | refine CW.exit ?_ | refine CW.condT rfl ?_ | refine CW.condF rfl ?_)
          refine CW.reg ?_
          refine WL.enter rfl (run_call en11 rfl rfl) (hk _ hg) ?_
          rintro e w ⟨rfl, hq⟩
          refine ⟨_, rfl, ?_⟩
          replace hs := hs.callE hq
          first | refine WL.val rfl (run_notB rfl) ?_ | refine WL.val rfl (run_not rfl) ?_
          refine WL.nil ?_
          repeat (first | refine CW.seq ?_ | refine CW.block ?_ | refine CW.skip ?_ | refine CW.label ?_ | refine CW.exit ?_ | refine CW.condT rfl ?_ | refine CW.condF rfl ?_)
          refine CW.reg ?_
          refine WL.val rfl (run_move) ?_
          refine WL.val rfl (run_lenStr Tryd.underlying9 rfl) ?_
          refine WL.val rfl (run_bF (run_gtr rfl rfl) (by omega)) ?_
          refine WL.val rfl (run_move) ?_
          first | (refine WL.yes rfl rfl rfl ?_; refine WL.val rfl (run_move) ?_) | refine WL.no rfl rfl rfl (.inl rfl) ?_ | refine WL.no rfl rfl rfl (.inr rfl) ?_
          first | (refine WL.yes rfl rfl rfl ?_; refine WL.val rfl (run_lenStr Tryd.underlying9 rfl) ?_) | refine WL.no rfl rfl rfl (.inl rfl) ?_ | refine WL.no rfl rfl rfl (.inr rfl) ?_
          refine WL.yes rfl rfl rfl ?_
          refine WL.val rfl (run_bF (run_gtr rfl rfl) (by omega)) ?_
          first | refine WL.val rfl (run_pickT rfl) ?_ | refine WL.val rfl (run_pickF rfl) ?_
          refine WL.val rfl (run_move) ?_
          first | (refine WL.yes rfl rfl rfl ?_; refine WL.val rfl (run_move) ?_) | refine WL.no rfl rfl rfl (.inl rfl) ?_ | refine WL.no rfl rfl rfl (.inr rfl) ?_
          first | (refine WL.yes rfl rfl rfl ?_; refine WL.val rfl (run_lenStr Tryd.underlying9 rfl) ?_) | refine WL.no rfl rfl rfl (.inl rfl) ?_ | refine WL.no rfl rfl rfl (.inr rfl) ?_
          refine WL.yes rfl rfl rfl ?_
          refine WL.val rfl (run_bF (run_gtr rfl rfl) (by omega)) ?_
          first | refine WL.val rfl (run_pickT rfl) ?_ | refine WL.val rfl (run_pickF rfl) ?_
          refine WL.nil ?_
          repeat (first | refine CW.seq ?_ | refine CW.block ?_ | refine CW.skip ?_ | refine CW.label ?_ | refine CW.exit ?_ | refine CW.condT rfl ?_ | refine CW.condF rfl ?_)
          refine CW.reg ?_
          refine WL.val rfl (run_move) ?_
          refine WL.enter rfl (run_call en20 rfl rfl) (cNa _ (hg.step hs)) ?_
          rintro e w ⟨u, Lu, rfl, hu, hqs⟩
          refine ⟨_, rfl, ?_⟩
          have hxx := cellsOf hu hqs
          obtain ⟨a, c, hq3, hcl, hcx⟩ := hxx
          subst hq3
          replace hcx : Texts _ _ _ := hcx
          replace hs := hs.call0 (hqs.dropR (L1 := []))
          refine WL.val rfl (run_move) ?_
          refine WL.val rfl (run_extract rfl rfl) ?_
          refine WL.val rfl (run_extract rfl rfl) ?_
          refine WL.val rfl (run_assign) ?_
          refine WL.val rfl (run_assign) ?_
          refine WL.nil ?_
          repeat (first | refine CW.seq ?_ | refine CW.block ?_ | refine CW.skip ?_ | refine CW.label ?_ | refine CW.exit ?_ | refine CW.condT rfl ?_ | refine CW.condF rfl ?_)
          refine CW.reg ?_
          refine WL.val rfl (run_move) ?_
          refine WL.enter rfl (run_call en20 rfl rfl) (cNb _ (hg.step hs)) ?_
          rintro e w ⟨u2, Lv, rfl, hv, hq2⟩
          refine ⟨_, rfl, ?_⟩
          have hyy := cellsOf hv hq2
          obtain ⟨a2, c2, hq4, hcl2, hcy⟩ := hyy
          subst hq4
          replace hcy : Texts _ _ _ := hcy
          have hcx2 : Texts _ _ _ := Sl0.keep hcx hq2
          replace hs := hs.call0 (hq2.dropR (L1 := []))
          refine WL.val rfl (run_move) ?_
          refine WL.val rfl (run_extract rfl rfl) ?_
          refine WL.val rfl (run_extract rfl rfl) ?_
          refine WL.val rfl (run_assign) ?_
          refine WL.val rfl (run_assign) ?_
          refine WL.nil ?_
          repeat (first | refine CW.seq ?_ | refine CW.block ?_ | refine CW.skip ?_ | refine CW.label ?_ | refine CW.exit ?_ | refine CW.condT rfl ?_ | refine CW.condF rfl ?_)
          refine CW.reg ?_
          refine WL.val rfl (run_move) ?_
          first | refine WL.val rfl (run_notB rfl) ?_ | refine WL.val rfl (run_not rfl) ?_
          refine WL.val rfl (run_move) ?_
          first | (refine WL.yes rfl rfl rfl ?_; refine WL.val rfl (run_move) ?_) | refine WL.no rfl rfl rfl (.inl rfl) ?_ | refine WL.no rfl rfl rfl (.inr rfl) ?_
          first | (refine WL.yes rfl rfl rfl ?_; (first | refine WL.val rfl (run_notB rfl) ?_ | refine WL.val rfl (run_not rfl) ?_)) | refine WL.no rfl rfl rfl (.inl rfl) ?_ | refine WL.no rfl rfl rfl (.inr rfl) ?_
          first | refine WL.val rfl (run_pickT rfl) ?_ | refine WL.val rfl (run_pickF rfl) ?_
          refine WL.nil ?_
          repeat (first | refine CW.seq ?_ | refine CW.block ?_ | refine CW.skip ?_ | refine CW.label ?_ | refine CW.exit ?_ | refine CW.condT rfl ?_ | refine CW.condF rfl ?_)
          refine CW.reg ?_
          refine WL.val rfl (run_move) ?_
          refine WL.val rfl (run_move) ?_
          refine WL.enter rfl (run_call en28 rfl rfl) (cS _ hcx2 hcy) ?_
          rintro e w ⟨rfl, hq⟩
          refine ⟨_, rfl, ?_⟩
          replace hs := hs.callE hq
          refine WL.val rfl (run_assign) ?_
          refine WL.nil ?_
          repeat (first | refine CW.seq ?_ | refine CW.block ?_ | refine CW.skip ?_ | refine CW.label ?_ | refine CW.exit ?_ | refine CW.condT rfl ?_ | refine CW.condF rfl ?_)
          refine CW.reg ?_
          refine WL.val rfl (run_move) ?_
          refine WL.val rfl (run_move) ?_
          refine WL.enter rfl (run_call en24 rfl rfl) (cLab _ (hg.step hs)) ?_
          rintro e w ⟨rfl, hq⟩
          refine ⟨_, rfl, ?_⟩
          replace hs := hs.callE hq
          refine WL.val rfl (run_assign) ?_
          refine WL.nil ?_
          repeat (first | refine CW.seq ?_ | refine CW.block ?_ | refine CW.skip ?_ | refine CW.label ?_ | refine CW.exit ?_ | refine CW.condT rfl ?_ | refine CW.condF rfl ?_)
          refine CW.reg ?_
          refine WL.val rfl (run_move) ?_
          refine WL.val rfl (run_move) ?_
          refine WL.enter rfl (run_call en24 rfl rfl) (cLba _ (hg.step hs)) ?_
          rintro e w ⟨rfl, hq⟩
          refine ⟨_, rfl, ?_⟩
          replace hs := hs.callE hq
          refine WL.val rfl (run_assign) ?_
          refine WL.nil ?_
          repeat (first | refine CW.seq ?_ | refine CW.block ?_ | refine CW.skip ?_ | refine CW.label ?_ | refine CW.exit ?_ | refine CW.condT rfl ?_ | refine CW.condF rfl ?_)
          refine CW.reg ?_
          refine WL.val rfl (run_move) ?_
          refine WL.val rfl (run_move) ?_
          first | (refine WL.yes rfl rfl rfl ?_; refine WL.val rfl (run_move) ?_) | refine WL.no rfl rfl rfl (.inl rfl) ?_ | refine WL.no rfl rfl rfl (.inr rfl) ?_
          first | (refine WL.yes rfl rfl rfl ?_; refine WL.val rfl (run_move) ?_) | refine WL.no rfl rfl rfl (.inl rfl) ?_ | refine WL.no rfl rfl rfl (.inr rfl) ?_
          first | (refine WL.yes rfl rfl rfl ?_; refine WL.val rfl (run_move) ?_) | refine WL.no rfl rfl rfl (.inl rfl) ?_ | refine WL.no rfl rfl rfl (.inr rfl) ?_
          first | (refine WL.yes rfl rfl rfl ?_; (first | refine WL.val rfl (run_pickT rfl) ?_ | refine WL.val rfl (run_pickF rfl) ?_)) | refine WL.no rfl rfl rfl (.inl rfl) ?_ | refine WL.no rfl rfl rfl (.inr rfl) ?_
          first | (refine WL.yes rfl rfl rfl ?_; refine WL.val rfl (run_move) ?_) | refine WL.no rfl rfl rfl (.inl rfl) ?_ | refine WL.no rfl rfl rfl (.inr rfl) ?_
          first | (refine WL.yes rfl rfl rfl ?_; refine WL.val rfl (run_move) ?_) | refine WL.no rfl rfl rfl (.inl rfl) ?_ | refine WL.no rfl rfl rfl (.inr rfl) ?_
          first | (refine WL.yes rfl rfl rfl ?_; refine WL.val rfl (run_move) ?_) | refine WL.no rfl rfl rfl (.inl rfl) ?_ | refine WL.no rfl rfl rfl (.inr rfl) ?_
          first | refine WL.no rfl rfl rfl (.inl rfl) ?_ | refine WL.no rfl rfl rfl (.inr rfl) ?_
          first | (refine WL.yes rfl rfl rfl ?_; (first | refine WL.val rfl (run_notB rfl) ?_ | refine WL.val rfl (run_not rfl) ?_)) | refine WL.no rfl rfl rfl (.inl rfl) ?_ | refine WL.no rfl rfl rfl (.inr rfl) ?_
          first | (refine WL.yes rfl rfl rfl ?_; (first | refine WL.val rfl (run_pickT rfl) ?_ | refine WL.val rfl (run_pickF rfl) ?_)) | refine WL.no rfl rfl rfl (.inl rfl) ?_ | refine WL.no rfl rfl rfl (.inr rfl) ?_
          first | refine WL.val rfl (run_pickT rfl) ?_ | refine WL.val rfl (run_pickF rfl) ?_
          refine WL.val rfl (run_move) ?_
          first | (refine WL.yes rfl rfl rfl ?_; refine WL.val rfl (run_move) ?_) | refine WL.no rfl rfl rfl (.inl rfl) ?_ | refine WL.no rfl rfl rfl (.inr rfl) ?_
          first | (refine WL.yes rfl rfl rfl ?_; (first | refine WL.val rfl (run_notB rfl) ?_ | refine WL.val rfl (run_not rfl) ?_)) | refine WL.no rfl rfl rfl (.inl rfl) ?_ | refine WL.no rfl rfl rfl (.inr rfl) ?_
          first | (refine WL.yes rfl rfl rfl ?_; refine WL.val rfl (run_move) ?_) | refine WL.no rfl rfl rfl (.inl rfl) ?_ | refine WL.no rfl rfl rfl (.inr rfl) ?_
          first | (refine WL.yes rfl rfl rfl ?_; refine WL.val rfl (run_move) ?_) | refine WL.no rfl rfl rfl (.inl rfl) ?_ | refine WL.no rfl rfl rfl (.inr rfl) ?_
          first | (refine WL.yes rfl rfl rfl ?_; refine WL.val rfl (run_move) ?_) | refine WL.no rfl rfl rfl (.inl rfl) ?_ | refine WL.no rfl rfl rfl (.inr rfl) ?_
          refine WL.yes rfl rfl rfl ?_
          refine WL.val rfl (run_bE (run_eqlB Tryd.underlying4 rfl rfl) (show _ = false from rfl)) ?_
          first | (refine WL.yes rfl rfl rfl ?_; (first | refine WL.val rfl (run_pickT rfl) ?_ | refine WL.val rfl (run_pickF rfl) ?_)) | refine WL.no rfl rfl rfl (.inl rfl) ?_ | refine WL.no rfl rfl rfl (.inr rfl) ?_
          first | refine WL.val rfl (run_pickT rfl) ?_ | refine WL.val rfl (run_pickF rfl) ?_
          refine WL.nil ?_
          repeat (first | refine CW.seq ?_ | refine CW.block ?_ | refine CW.skip ?_ | refine CW.label ?_ | refine CW.exit ?_ | refine CW.condT rfl ?_ | refine CW.condF rfl ?_)
          refine CW.reg ?_
          refine WL.val rfl (run_move) ?_
          refine WL.val rfl (run_move) ?_
          first | (refine WL.yes rfl rfl rfl ?_; refine WL.val rfl (run_move) ?_) | refine WL.no rfl rfl rfl (.inl rfl) ?_ | refine WL.no rfl rfl rfl (.inr rfl) ?_
          first | (refine WL.yes rfl rfl rfl ?_; refine WL.val rfl (run_move) ?_) | refine WL.no rfl rfl rfl (.inl rfl) ?_ | refine WL.no rfl rfl rfl (.inr rfl) ?_
          refine WL.yes rfl rfl rfl ?_
          refine WL.enter rfl (run_call en24 rfl rfl) (cLbc _ (hg.step hs)) ?_
          rintro e w ⟨rfl, hq⟩
          refine ⟨_, rfl, ?_⟩
          replace hs := hs.callE hq
          first | refine WL.val rfl (run_pickT rfl) ?_ | refine WL.val rfl (run_pickF rfl) ?_
          refine WL.val rfl (run_move) ?_
          first | (refine WL.yes rfl rfl rfl ?_; refine WL.val rfl (run_move) ?_) | refine WL.no rfl rfl rfl (.inl rfl) ?_ | refine WL.no rfl rfl rfl (.inr rfl) ?_
          first | (refine WL.yes rfl rfl rfl ?_; refine WL.val rfl (run_move) ?_) | refine WL.no rfl rfl rfl (.inl rfl) ?_ | refine WL.no rfl rfl rfl (.inr rfl) ?_
          first | refine WL.no rfl rfl rfl (.inl rfl) ?_ | refine WL.no rfl rfl rfl (.inr rfl) ?_
          first | (refine WL.yes rfl rfl rfl ?_; (first | refine WL.val rfl (run_notB rfl) ?_ | refine WL.val rfl (run_not rfl) ?_)) | refine WL.no rfl rfl rfl (.inl rfl) ?_ | refine WL.no rfl rfl rfl (.inr rfl) ?_
          first | refine WL.val rfl (run_pickT rfl) ?_ | refine WL.val rfl (run_pickF rfl) ?_
          refine WL.nil ?_
          repeat (first | refine CW.seq ?_ | refine CW.block ?_ | refine CW.skip ?_ | refine CW.label ?_ | refine CW.exit ?_ | refine CW.condT rfl ?_ | refine CW.condF rfl ?_)
          refine CW.reg ?_
          refine WL.val rfl (run_move) ?_
          refine WL.val rfl (run_move) ?_
          refine WL.enter rfl (run_call en26 rfl rfl) (cUab _ (hg.step hs)) ?_
          rintro e w ⟨rfl, hq⟩
          refine ⟨_, rfl, ?_⟩
          replace hs := hs.callE hq
          refine WL.val rfl (run_move) ?_
          first | (refine WL.yes rfl rfl rfl ?_; refine WL.val rfl (run_move) ?_) | refine WL.no rfl rfl rfl (.inl rfl) ?_ | refine WL.no rfl rfl rfl (.inr rfl) ?_
          first | (refine WL.yes rfl rfl rfl ?_; (first | refine WL.val rfl (run_notB rfl) ?_ | refine WL.val rfl (run_not rfl) ?_)) | refine WL.no rfl rfl rfl (.inl rfl) ?_ | refine WL.no rfl rfl rfl (.inr rfl) ?_
          first | refine WL.val rfl (run_pickT rfl) ?_ | refine WL.val rfl (run_pickF rfl) ?_
          refine WL.val rfl (run_move) ?_
          first | (refine WL.yes rfl rfl rfl ?_; refine WL.val rfl (run_move) ?_) | refine WL.no rfl rfl rfl (.inl rfl) ?_ | refine WL.no rfl rfl rfl (.inr rfl) ?_
          first | (refine WL.yes rfl rfl rfl ?_; (first | refine WL.val rfl (run_notB rfl) ?_ | refine WL.val rfl (run_not rfl) ?_)) | refine WL.no rfl rfl rfl (.inl rfl) ?_ | refine WL.no rfl rfl rfl (.inr rfl) ?_
          first | refine WL.val rfl (run_pickT rfl) ?_ | refine WL.val rfl (run_pickF rfl) ?_
          refine WL.nil ?_
          cases uac with
          | false =>
            repeat (first | refine CW.seq ?_ | refine CW.block ?_ | refine CW.skip ?_ | refine CW.label ?_ | refine CW.exit ?_ | refine CW.condT rfl ?_ | refine CW.condF rfl ?_)
            refine CW.reg ?_
            refine WL.val rfl (run_move) ?_
            refine WL.val rfl (run_move) ?_
            refine WL.enter rfl (run_call en26 rfl rfl) (cUac _ (hg.step hs)) ?_
            rintro e w ⟨rfl, hq⟩
            refine ⟨_, rfl, ?_⟩
            replace hs := hs.callE hq
            first | refine WL.val rfl (run_notB rfl) ?_ | refine WL.val rfl (run_not rfl) ?_
            refine WL.val rfl (run_move) ?_
            first | (refine WL.yes rfl rfl rfl ?_; refine WL.val rfl (run_move) ?_) | refine WL.no rfl rfl rfl (.inl rfl) ?_ | refine WL.no rfl rfl rfl (.inr rfl) ?_
            first | (refine WL.yes rfl rfl rfl ?_; (first | refine WL.val rfl (run_notB rfl) ?_ | refine WL.val rfl (run_not rfl) ?_)) | refine WL.no rfl rfl rfl (.inl rfl) ?_ | refine WL.no rfl rfl rfl (.inr rfl) ?_
            first | refine WL.val rfl (run_pickT rfl) ?_ | refine WL.val rfl (run_pickF rfl) ?_
            refine WL.val rfl (run_move) ?_
            first | (refine WL.yes rfl rfl rfl ?_; refine WL.val rfl (run_move) ?_) | refine WL.no rfl rfl rfl (.inl rfl) ?_ | refine WL.no rfl rfl rfl (.inr rfl) ?_
            first | (refine WL.yes rfl rfl rfl ?_; refine WL.val rfl (run_move) ?_) | refine WL.no rfl rfl rfl (.inl rfl) ?_ | refine WL.no rfl rfl rfl (.inr rfl) ?_
            first | refine WL.no rfl rfl rfl (.inl rfl) ?_ | refine WL.no rfl rfl rfl (.inr rfl) ?_
            first | (refine WL.yes rfl rfl rfl ?_; (first | refine WL.val rfl (run_notB rfl) ?_ | refine WL.val rfl (run_not rfl) ?_)) | refine WL.no rfl rfl rfl (.inl rfl) ?_ | refine WL.no rfl rfl rfl (.inr rfl) ?_
            first | refine WL.val rfl (run_pickT rfl) ?_ | refine WL.val rfl (run_pickF rfl) ?_
            refine WL.val rfl (run_move) ?_
            first | (refine WL.yes rfl rfl rfl ?_; refine WL.val rfl (run_move) ?_) | refine WL.no rfl rfl rfl (.inl rfl) ?_ | refine WL.no rfl rfl rfl (.inr rfl) ?_
            first | (refine WL.yes rfl rfl rfl ?_; refine WL.val rfl (run_move) ?_) | refine WL.no rfl rfl rfl (.inl rfl) ?_ | refine WL.no rfl rfl rfl (.inr rfl) ?_
            first | refine WL.no rfl rfl rfl (.inl rfl) ?_ | refine WL.no rfl rfl rfl (.inr rfl) ?_
            first | refine WL.val rfl (run_pickT rfl) ?_ | refine WL.val rfl (run_pickF rfl) ?_
            refine WL.val rfl (run_assign) ?_
            refine WL.nil ?_
            repeat (first | refine CW.seq ?_ | refine CW.block ?_ | refine CW.skip ?_ | refine CW.label ?_ | refine CW.exit ?_ | refine CW.condT rfl ?_ | refine CW.condF rfl ?_)
            refine CW.ret ?_
            refine fin_ret1 rfl ?_
            exact ⟨rfl, hs⟩
          | true =>
            repeat (first | refine CW.seq ?_ | refine CW.block ?_ | refine CW.skip ?_ | refine CW.label ?_ | refine CW.exit ?_ | refine CW.condT rfl ?_ | refine CW.condF rfl ?_)
            refine CW.reg ?_
            refine WL.val rfl (run_move) ?_
            refine WL.val rfl (run_move) ?_
            refine WL.enter rfl (run_call en26 rfl rfl) (cUac _ (hg.step hs)) ?_
            rintro e w ⟨rfl, hq⟩
            refine ⟨_, rfl, ?_⟩
            replace hs := hs.callE hq
            first | refine WL.val rfl (run_notB rfl) ?_ | refine WL.val rfl (run_not rfl) ?_
            refine WL.val rfl (run_move) ?_
            first | (refine WL.yes rfl rfl rfl ?_; refine WL.val rfl (run_move) ?_) | refine WL.no rfl rfl rfl (.inl rfl) ?_ | refine WL.no rfl rfl rfl (.inr rfl) ?_
            first | (refine WL.yes rfl rfl rfl ?_; (first | refine WL.val rfl (run_notB rfl) ?_ | refine WL.val rfl (run_not rfl) ?_)) | refine WL.no rfl rfl rfl (.inl rfl) ?_ | refine WL.no rfl rfl rfl (.inr rfl) ?_
            first | refine WL.val rfl (run_pickT rfl) ?_ | refine WL.val rfl (run_pickF rfl) ?_
            refine WL.val rfl (run_move) ?_
            first | (refine WL.yes rfl rfl rfl ?_; refine WL.val rfl (run_move) ?_) | refine WL.no rfl rfl rfl (.inl rfl) ?_ | refine WL.no rfl rfl rfl (.inr rfl) ?_
            first | (refine WL.yes rfl rfl rfl ?_; refine WL.val rfl (run_move) ?_) | refine WL.no rfl rfl rfl (.inl rfl) ?_ | refine WL.no rfl rfl rfl (.inr rfl) ?_
            refine WL.yes rfl rfl rfl ?_
            refine WL.enter rfl (run_call en24 rfl rfl) (cLbc _ (hg.step hs)) ?_
            rintro e w ⟨rfl, hq⟩
            refine ⟨_, rfl, ?_⟩
            replace hs := hs.callE hq
            first | (refine WL.yes rfl rfl rfl ?_; (first | refine WL.val rfl (run_notB rfl) ?_ | refine WL.val rfl (run_not rfl) ?_)) | refine WL.no rfl rfl rfl (.inl rfl) ?_ | refine WL.no rfl rfl rfl (.inr rfl) ?_
            first | refine WL.val rfl (run_pickT rfl) ?_ | refine WL.val rfl (run_pickF rfl) ?_
            refine WL.val rfl (run_move) ?_
            first | (refine WL.yes rfl rfl rfl ?_; refine WL.val rfl (run_move) ?_) | refine WL.no rfl rfl rfl (.inl rfl) ?_ | refine WL.no rfl rfl rfl (.inr rfl) ?_
            first | (refine WL.yes rfl rfl rfl ?_; refine WL.val rfl (run_move) ?_) | refine WL.no rfl rfl rfl (.inl rfl) ?_ | refine WL.no rfl rfl rfl (.inr rfl) ?_
            first | refine WL.no rfl rfl rfl (.inl rfl) ?_ | refine WL.no rfl rfl rfl (.inr rfl) ?_
            first | refine WL.val rfl (run_pickT rfl) ?_ | refine WL.val rfl (run_pickF rfl) ?_
            refine WL.val rfl (run_assign) ?_
            refine WL.nil ?_
            repeat (first | refine CW.seq ?_ | refine CW.block ?_ | refine CW.skip ?_ | refine CW.label ?_ | refine CW.exit ?_ | refine CW.condT rfl ?_ | refine CW.condF rfl ?_)
            refine CW.ret ?_
            refine fin_ret1 rfl ?_
            exact ⟨rfl, hs⟩
        | true =>
          refine calls (n := 118) Tryd.func8 rfl rfl rfl ?_
          repeat (first | refine CW.seq ?_ | refine CW.block ?_ | refine CW.skip ?_ | refine CW.label ?_ | refine CW.exit ?_ | refine CW.condT rfl ?_ | refine CW.condF rfl ?_)
          refine CW.reg ?_
          refine WL.val rfl (run_assign) ?_
          refine WL.nil ?_
          repeat (first | refine CW.seq ?_ | refine CW.block ?_ | refine CW.skip ?_ | refine CW.label ?_ | refine CW.exit ?_ | refine CW.condT rfl ?_ | refine CW.condF rfl ?_)
          refine CW.reg ?_
          refine WL.enter rfl (run_call en11 rfl rfl) (hk _ hg) ?_
          rintro e w ⟨rfl, hq⟩
          refine ⟨_, rfl, ?_⟩
          replace hs := hs.callE hq
          first | refine WL.val rfl (run_notB rfl) ?_ | refine WL.val rfl (run_not rfl) ?_
          refine WL.nil ?_
          repeat (first | refine CW.seq ?_ | refine CW.block ?_ | refine CW.skip ?_ | refine CW.label ?_ | refine CW.exit ?_ | refine CW.condT rfl ?_ | refine CW.condF rfl ?_)
          refine CW.reg ?_
          refine WL.val rfl (run_move) ?_
          refine WL.val rfl (run_lenStr Tryd.underlying9 rfl) ?_
          refine WL.val rfl (run_bF (run_gtr rfl rfl) (by omega)) ?_
          refine WL.val rfl (run_move) ?_
          first | (refine WL.yes rfl rfl rfl ?_; refine WL.val rfl (run_move) ?_) | refine WL.no rfl rfl rfl (.inl rfl) ?_ | refine WL.no rfl rfl rfl (.inr rfl) ?_
          first | (refine WL.yes rfl rfl rfl ?_; refine WL.val rfl (run_lenStr Tryd.underlying9 rfl) ?_) | refine WL.no rfl rfl rfl (.inl rfl) ?_ | refine WL.no rfl rfl rfl (.inr rfl) ?_
          refine WL.yes rfl rfl rfl ?_
          refine WL.val rfl (run_bF (run_gtr rfl rfl) (by omega)) ?_
          first | refine WL.val rfl (run_pickT rfl) ?_ | refine WL.val rfl (run_pickF rfl) ?_
          refine WL.val rfl (run_move) ?_
          first | (refine WL.yes rfl rfl rfl ?_; refine WL.val rfl (run_move) ?_) | refine WL.no rfl rfl rfl (.inl rfl) ?_ | refine WL.no rfl rfl rfl (.inr rfl) ?_
          first | (refine WL.yes rfl rfl rfl ?_; refine WL.val rfl (run_lenStr Tryd.underlying9 rfl) ?_) | refine WL.no rfl rfl rfl (.inl rfl) ?_ | refine WL.no rfl rfl rfl (.inr rfl) ?_
          refine WL.yes rfl rfl rfl ?_
          refine WL.val rfl (run_bF (run_gtr rfl rfl) (by omega)) ?_
          first | refine WL.val rfl (run_pickT rfl) ?_ | refine WL.val rfl (run_pickF rfl) ?_
          refine WL.nil ?_
          repeat (first | refine CW.seq ?_ | refine CW.block ?_ | refine CW.skip ?_ | refine CW.label ?_ | refine CW.exit ?_ | refine CW.condT rfl ?_ | refine CW.condF rfl ?_)
          refine CW.reg ?_
          refine WL.val rfl (run_move) ?_
          refine WL.enter rfl (run_call en20 rfl rfl) (cNa _ (hg.step hs)) ?_
          rintro e w ⟨u, Lu, rfl, hu, hqs⟩
          refine ⟨_, rfl, ?_⟩
          have hxx := cellsOf hu hqs
          obtain ⟨a, c, hq3, hcl, hcx⟩ := hxx
          subst hq3
          replace hcx : Texts _ _ _ := hcx
          replace hs := hs.call0 (hqs.dropR (L1 := []))
          refine WL.val rfl (run_move) ?_
          refine WL.val rfl (run_extract rfl rfl) ?_
          refine WL.val rfl (run_extract rfl rfl) ?_
          refine WL.val rfl (run_assign) ?_
          refine WL.val rfl (run_assign) ?_
          refine WL.nil ?_
          repeat (first | refine CW.seq ?_ | refine CW.block ?_ | refine CW.skip ?_ | refine CW.label ?_ | refine CW.exit ?_ | refine CW.condT rfl ?_ | refine CW.condF rfl ?_)
          refine CW.reg ?_
          refine WL.val rfl (run_move) ?_
          refine WL.enter rfl (run_call en20 rfl rfl) (cNb _ (hg.step hs)) ?_
          rintro e w ⟨u2, Lv, rfl, hv, hq2⟩
          refine ⟨_, rfl, ?_⟩
          have hyy := cellsOf hv hq2
          obtain ⟨a2, c2, hq4, hcl2, hcy⟩ := hyy
          subst hq4
          replace hcy : Texts _ _ _ := hcy
          have hcx2 : Texts _ _ _ := Sl0.keep hcx hq2
          replace hs := hs.call0 (hq2.dropR (L1 := []))
          refine WL.val rfl (run_move) ?_
          refine WL.val rfl (run_extract rfl rfl) ?_
          refine WL.val rfl (run_extract rfl rfl) ?_
          refine WL.val rfl (run_assign) ?_
          refine WL.val rfl (run_assign) ?_
          refine WL.nil ?_
          repeat (first | refine CW.seq ?_ | refine CW.block ?_ | refine CW.skip ?_ | refine CW.label ?_ | refine CW.exit ?_ | refine CW.condT rfl ?_ | refine CW.condF rfl ?_)
          refine CW.reg ?_
          refine WL.val rfl (run_move) ?_
          first | refine WL.val rfl (run_notB rfl) ?_ | refine WL.val rfl (run_not rfl) ?_
          refine WL.val rfl (run_move) ?_
          first | (refine WL.yes rfl rfl rfl ?_; refine WL.val rfl (run_move) ?_) | refine WL.no rfl rfl rfl (.inl rfl) ?_ | refine WL.no rfl rfl rfl (.inr rfl) ?_
          first | (refine WL.yes rfl rfl rfl ?_; (first | refine WL.val rfl (run_notB rfl) ?_ | refine WL.val rfl (run_not rfl) ?_)) | refine WL.no rfl rfl rfl (.inl rfl) ?_ | refine WL.no rfl rfl rfl (.inr rfl) ?_
          first | refine WL.val rfl (run_pickT rfl) ?_ | refine WL.val rfl (run_pickF rfl) ?_
          refine WL.nil ?_
          repeat (first | refine CW.seq ?_ | refine CW.block ?_ | refine CW.skip ?_ | refine CW.label ?_ | refine CW.exit ?_ | refine CW.condT rfl ?_ | refine CW.condF rfl ?_)
          refine CW.reg ?_
          refine WL.val rfl (run_move) ?_
          refine WL.val rfl (run_move) ?_
          refine WL.enter rfl (run_call en28 rfl rfl) (cS _ hcx2 hcy) ?_
          rintro e w ⟨rfl, hq⟩
          refine ⟨_, rfl, ?_⟩
          replace hs := hs.callE hq
          refine WL.val rfl (run_assign) ?_
          refine WL.nil ?_
          repeat (first | refine CW.seq ?_ | refine CW.block ?_ | refine CW.skip ?_ | refine CW.label ?_ | refine CW.exit ?_ | refine CW.condT rfl ?_ | refine CW.condF rfl ?_)
          refine CW.reg ?_
          refine WL.val rfl (run_move) ?_
          refine WL.val rfl (run_move) ?_
          refine WL.enter rfl (run_call en24 rfl rfl) (cLab _ (hg.step hs)) ?_
          rintro e w ⟨rfl, hq⟩
          refine ⟨_, rfl, ?_⟩
          replace hs := hs.callE hq
          refine WL.val rfl (run_assign) ?_
          refine WL.nil ?_
          repeat (first | refine CW.seq ?_ | refine CW.block ?_ | refine CW.skip ?_ | refine CW.label ?_ | refine CW.exit ?_ | refine CW.condT rfl ?_ | refine CW.condF rfl ?_)
          refine CW.reg ?_
          refine WL.val rfl (run_move) ?_
          refine WL.val rfl (run_move) ?_
          refine WL.enter rfl (run_call en24 rfl rfl) (cLba _ (hg.step hs)) ?_
          rintro e w ⟨rfl, hq⟩
          refine ⟨_, rfl, ?_⟩
          replace hs := hs.callE hq
          refine WL.val rfl (run_assign) ?_
          refine WL.nil ?_
          repeat (first | refine CW.seq ?_ | refine CW.block ?_ | refine CW.skip ?_ | refine CW.label ?_ | refine CW.exit ?_ | refine CW.condT rfl ?_ | refine CW.condF rfl ?_)
          refine CW.reg ?_
          refine WL.val rfl (run_move) ?_
          refine WL.val rfl (run_move) ?_
          first | (refine WL.yes rfl rfl rfl ?_; refine WL.val rfl (run_move) ?_) | refine WL.no rfl rfl rfl (.inl rfl) ?_ | refine WL.no rfl rfl rfl (.inr rfl) ?_
          first | (refine WL.yes rfl rfl rfl ?_; refine WL.val rfl (run_move) ?_) | refine WL.no rfl rfl rfl (.inl rfl) ?_ | refine WL.no rfl rfl rfl (.inr rfl) ?_
          first | (refine WL.yes rfl rfl rfl ?_; refine WL.val rfl (run_move) ?_) | refine WL.no rfl rfl rfl (.inl rfl) ?_ | refine WL.no rfl rfl rfl (.inr rfl) ?_
          first | (refine WL.yes rfl rfl rfl ?_; (first | refine WL.val rfl (run_pickT rfl) ?_ | refine WL.val rfl (run_pickF rfl) ?_)) | refine WL.no rfl rfl rfl (.inl rfl) ?_ | refine WL.no rfl rfl rfl (.inr rfl) ?_
          first | (refine WL.yes rfl rfl rfl ?_; refine WL.val rfl (run_move) ?_) | refine WL.no rfl rfl rfl (.inl rfl) ?_ | refine WL.no rfl rfl rfl (.inr rfl) ?_
          first | (refine WL.yes rfl rfl rfl ?_; refine WL.val rfl (run_move) ?_) | refine WL.no rfl rfl rfl (.inl rfl) ?_ | refine WL.no rfl rfl rfl (.inr rfl) ?_
          first | (refine WL.yes rfl rfl rfl ?_; refine WL.val rfl (run_move) ?_) | refine WL.no rfl rfl rfl (.inl rfl) ?_ | refine WL.no rfl rfl rfl (.inr rfl) ?_
          first | refine WL.no rfl rfl rfl (.inl rfl) ?_ | refine WL.no rfl rfl rfl (.inr rfl) ?_
          first | (refine WL.yes rfl rfl rfl ?_; (first | refine WL.val rfl (run_notB rfl) ?_ | refine WL.val rfl (run_not rfl) ?_)) | refine WL.no rfl rfl rfl (.inl rfl) ?_ | refine WL.no rfl rfl rfl (.inr rfl) ?_
          first | (refine WL.yes rfl rfl rfl ?_; (first | refine WL.val rfl (run_pickT rfl) ?_ | refine WL.val rfl (run_pickF rfl) ?_)) | refine WL.no rfl rfl rfl (.inl rfl) ?_ | refine WL.no rfl rfl rfl (.inr rfl) ?_
          first | refine WL.val rfl (run_pickT rfl) ?_ | refine WL.val rfl (run_pickF rfl) ?_
          refine WL.val rfl (run_move) ?_
          first | (refine WL.yes rfl rfl rfl ?_; refine WL.val rfl (run_move) ?_) | refine WL.no rfl rfl rfl (.inl rfl) ?_ | refine WL.no rfl rfl rfl (.inr rfl) ?_
          first | (refine WL.yes rfl rfl rfl ?_; (first | refine WL.val rfl (run_notB rfl) ?_ | refine WL.val rfl (run_not rfl) ?_)) | refine WL.no rfl rfl rfl (.inl rfl) ?_ | refine WL.no rfl rfl rfl (.inr rfl) ?_
          first | (refine WL.yes rfl rfl rfl ?_; refine WL.val rfl (run_move) ?_) | refine WL.no rfl rfl rfl (.inl rfl) ?_ | refine WL.no rfl rfl rfl (.inr rfl) ?_
          first | (refine WL.yes rfl rfl rfl ?_; refine WL.val rfl (run_move) ?_) | refine WL.no rfl rfl rfl (.inl rfl) ?_ | refine WL.no rfl rfl rfl (.inr rfl) ?_
          first | (refine WL.yes rfl rfl rfl ?_; refine WL.val rfl (run_move) ?_) | refine WL.no rfl rfl rfl (.inl rfl) ?_ | refine WL.no rfl rfl rfl (.inr rfl) ?_
          refine WL.yes rfl rfl rfl ?_
          refine WL.val rfl (run_bE (run_eqlB Tryd.underlying4 rfl rfl) (show _ = false from rfl)) ?_
          first | (refine WL.yes rfl rfl rfl ?_; (first | refine WL.val rfl (run_pickT rfl) ?_ | refine WL.val rfl (run_pickF rfl) ?_)) | refine WL.no rfl rfl rfl (.inl rfl) ?_ | refine WL.no rfl rfl rfl (.inr rfl) ?_
          first | refine WL.val rfl (run_pickT rfl) ?_ | refine WL.val rfl (run_pickF rfl) ?_
          refine WL.nil ?_
          repeat (first | refine CW.seq ?_ | refine CW.block ?_ | refine CW.skip ?_ | refine CW.label ?_ | refine CW.exit ?_ | refine CW.condT rfl ?_ | refine CW.condF rfl ?_)
          refine CW.reg ?_
          refine WL.val rfl (run_move) ?_
          refine WL.val rfl (run_move) ?_
          first | (refine WL.yes rfl rfl rfl ?_; refine WL.val rfl (run_move) ?_) | refine WL.no rfl rfl rfl (.inl rfl) ?_ | refine WL.no rfl rfl rfl (.inr rfl) ?_
          first | (refine WL.yes rfl rfl rfl ?_; refine WL.val rfl (run_move) ?_) | refine WL.no rfl rfl rfl (.inl rfl) ?_ | refine WL.no rfl rfl rfl (.inr rfl) ?_
          refine WL.yes rfl rfl rfl ?_
          refine WL.enter rfl (run_call en24 rfl rfl) (cLbc _ (hg.step hs)) ?_
          rintro e w ⟨rfl, hq⟩
          refine ⟨_, rfl, ?_⟩
          replace hs := hs.callE hq
          first | refine WL.val rfl (run_pickT rfl) ?_ | refine WL.val rfl (run_pickF rfl) ?_
          refine WL.val rfl (run_move) ?_
          first | (refine WL.yes rfl rfl rfl ?_; refine WL.val rfl (run_move) ?_) | refine WL.no rfl rfl rfl (.inl rfl) ?_ | refine WL.no rfl rfl rfl (.inr rfl) ?_
          first | (refine WL.yes rfl rfl rfl ?_; refine WL.val rfl (run_move) ?_) | refine WL.no rfl rfl rfl (.inl rfl) ?_ | refine WL.no rfl rfl rfl (.inr rfl) ?_
          first | refine WL.no rfl rfl rfl (.inl rfl) ?_ | refine WL.no rfl rfl rfl (.inr rfl) ?_
          first | (refine WL.yes rfl rfl rfl ?_; (first | refine WL.val rfl (run_notB rfl) ?_ | refine WL.val rfl (run_not rfl) ?_)) | refine WL.no rfl rfl rfl (.inl rfl) ?_ | refine WL.no rfl rfl rfl (.inr rfl) ?_
          first | refine WL.val rfl (run_pickT rfl) ?_ | refine WL.val rfl (run_pickF rfl) ?_
          refine WL.nil ?_
          repeat (first | refine CW.seq ?_ | refine CW.block ?_ | refine CW.skip ?_ | refine CW.label ?_ | refine CW.exit ?_ | refine CW.condT rfl ?_ | refine CW.condF rfl ?_)
          refine CW.reg ?_
          refine WL.val rfl (run_move) ?_
          refine WL.val rfl (run_move) ?_
          refine WL.enter rfl (run_call en26 rfl rfl) (cUab _ (hg.step hs)) ?_
          rintro e w ⟨rfl, hq⟩
          refine ⟨_, rfl, ?_⟩
          replace hs := hs.callE hq
          refine WL.val rfl (run_move) ?_
          first | (refine WL.yes rfl rfl rfl ?_; refine WL.val rfl (run_move) ?_) | refine WL.no rfl rfl rfl (.inl rfl) ?_ | refine WL.no rfl rfl rfl (.inr rfl) ?_
          first | (refine WL.yes rfl rfl rfl ?_; (first | refine WL.val rfl (run_notB rfl) ?_ | refine WL.val rfl (run_not rfl) ?_)) | refine WL.no rfl rfl rfl (.inl rfl) ?_ | refine WL.no rfl rfl rfl (.inr rfl) ?_
          first | refine WL.val rfl (run_pickT rfl) ?_ | refine WL.val rfl (run_pickF rfl) ?_
          refine WL.val rfl (run_move) ?_
          first | (refine WL.yes rfl rfl rfl ?_; refine WL.val rfl (run_move) ?_) | refine WL.no rfl rfl rfl (.inl rfl) ?_ | refine WL.no rfl rfl rfl (.inr rfl) ?_
          first | (refine WL.yes rfl rfl rfl ?_; (first | refine WL.val rfl (run_notB rfl) ?_ | refine WL.val rfl (run_not rfl) ?_)) | refine WL.no rfl rfl rfl (.inl rfl) ?_ | refine WL.no rfl rfl rfl (.inr rfl) ?_
          first | refine WL.val rfl (run_pickT rfl) ?_ | refine WL.val rfl (run_pickF rfl) ?_
          refine WL.nil ?_
          cases uac with
          | false =>
            repeat (first | refine CW.seq ?_ | refine CW.block ?_ | refine CW.skip ?_ | refine CW.label ?_ | refine CW.exit ?_ | refine CW.condT rfl ?_ | refine CW.condF rfl ?_)
            refine CW.reg ?_
            refine WL.val rfl (run_move) ?_
            refine WL.val rfl (run_move) ?_
            refine WL.enter rfl (run_call en26 rfl rfl) (cUac _ (hg.step hs)) ?_
            rintro e w ⟨rfl, hq⟩
            refine ⟨_, rfl, ?_⟩
            replace hs := hs.callE hq
            first | refine WL.val rfl (run_notB rfl) ?_ | refine WL.val rfl (run_not rfl) ?_
            refine WL.val rfl (run_move) ?_
            first | (refine WL.yes rfl rfl rfl ?_; refine WL.val rfl (run_move) ?_) | refine WL.no rfl rfl rfl (.inl rfl) ?_ | refine WL.no rfl rfl rfl (.inr rfl) ?_
            first | (refine WL.yes rfl rfl rfl ?_; (first | refine WL.val rfl (run_notB rfl) ?_ | refine WL.val rfl (run_not rfl) ?_)) | refine WL.no rfl rfl rfl (.inl rfl) ?_ | refine WL.no rfl rfl rfl (.inr rfl) ?_
            first | refine WL.val rfl (run_pickT rfl) ?_ | refine WL.val rfl (run_pickF rfl) ?_
            refine WL.val rfl (run_move) ?_
            first | (refine WL.yes rfl rfl rfl ?_; refine WL.val rfl (run_move) ?_) | refine WL.no rfl rfl rfl (.inl rfl) ?_ | refine WL.no rfl rfl rfl (.inr rfl) ?_
            first | (refine WL.yes rfl rfl rfl ?_; refine WL.val rfl (run_move) ?_) | refine WL.no rfl rfl rfl (.inl rfl) ?_ | refine WL.no rfl rfl rfl (.inr rfl) ?_
            first | refine WL.no rfl rfl rfl (.inl rfl) ?_ | refine WL.no rfl rfl rfl (.inr rfl) ?_
            first | (refine WL.yes rfl rfl rfl ?_; (first | refine WL.val rfl (run_notB rfl) ?_ | refine WL.val rfl (run_not rfl) ?_)) | refine WL.no rfl rfl rfl (.inl rfl) ?_ | refine WL.no rfl rfl rfl (.inr rfl) ?_
            first | refine WL.val rfl (run_pickT rfl) ?_ | refine WL.val rfl (run_pickF rfl) ?_
            refine WL.val rfl (run_move) ?_
            first | (refine WL.yes rfl rfl rfl ?_; refine WL.val rfl (run_move) ?_) | refine WL.no rfl rfl rfl (.inl rfl) ?_ | refine WL.no rfl rfl rfl (.inr rfl) ?_
            first | (refine WL.yes rfl rfl rfl ?_; refine WL.val rfl (run_move) ?_) | refine WL.no rfl rfl rfl (.inl rfl) ?_ | refine WL.no rfl rfl rfl (.inr rfl) ?_
            first | refine WL.no rfl rfl rfl (.inl rfl) ?_ | refine WL.no rfl rfl rfl (.inr rfl) ?_
            first | refine WL.val rfl (run_pickT rfl) ?_ | refine WL.val rfl (run_pickF rfl) ?_
            refine WL.val rfl (run_assign) ?_
            refine WL.nil ?_
            repeat (first | refine CW.seq ?_ | refine CW.block ?_ | refine CW.skip ?_ | refine CW.label ?_ | refine CW.exit ?_ | refine CW.condT rfl ?_ | refine CW.condF rfl ?_)
            refine CW.ret ?_
            refine fin_ret1 rfl ?_
            exact ⟨rfl, hs⟩
          | true =>
            repeat (first | refine CW.seq ?_ | refine CW.block ?_ | refine CW.skip ?_ | refine CW.label ?_ | refine CW.exit ?_ | refine CW.condT rfl ?_ | refine CW.condF rfl ?_)
            refine CW.reg ?_
            refine WL.val rfl (run_move) ?_
            refine WL.val rfl (run_move) ?_
            refine WL.enter rfl (run_call en26 rfl rfl) (cUac _ (hg.step hs)) ?_
            rintro e w ⟨rfl, hq⟩
            refine ⟨_, rfl, ?_⟩
            replace hs := hs.callE hq
            first | refine WL.val rfl (run_notB rfl) ?_ | refine WL.val rfl (run_not rfl) ?_
            refine WL.val rfl (run_move) ?_
            first | (refine WL.yes rfl rfl rfl ?_; refine WL.val rfl (run_move) ?_) | refine WL.no rfl rfl rfl (.inl rfl) ?_ | refine WL.no rfl rfl rfl (.inr rfl) ?_
            first | (refine WL.yes rfl rfl rfl ?_; (first | refine WL.val rfl (run_notB rfl) ?_ | refine WL.val rfl (run_not rfl) ?_)) | refine WL.no rfl rfl rfl (.inl rfl) ?_ | refine WL.no rfl rfl rfl (.inr rfl) ?_
            first | refine WL.val rfl (run_pickT rfl) ?_ | refine WL.val rfl (run_pickF rfl) ?_
            refine WL.val rfl (run_move) ?_
            first | (refine WL.yes rfl rfl rfl ?_; refine WL.val rfl (run_move) ?_) | refine WL.no rfl rfl rfl (.inl rfl) ?_ | refine WL.no rfl rfl rfl (.inr rfl) ?_
            first | (refine WL.yes rfl rfl rfl ?_; refine WL.val rfl (run_move) ?_) | refine WL.no rfl rfl rfl (.inl rfl) ?_ | refine WL.no rfl rfl rfl (.inr rfl) ?_
            refine WL.yes rfl rfl rfl ?_
            refine WL.enter rfl (run_call en24 rfl rfl) (cLbc _ (hg.step hs)) ?_
            rintro e w ⟨rfl, hq⟩
            refine ⟨_, rfl, ?_⟩
            replace hs := hs.callE hq
            first | (refine WL.yes rfl rfl rfl ?_; (first | refine WL.val rfl (run_notB rfl) ?_ | refine WL.val rfl (run_not rfl) ?_)) | refine WL.no rfl rfl rfl (.inl rfl) ?_ | refine WL.no rfl rfl rfl (.inr rfl) ?_
            first | refine WL.val rfl (run_pickT rfl) ?_ | refine WL.val rfl (run_pickF rfl) ?_
            refine WL.val rfl (run_move) ?_
            first | (refine WL.yes rfl rfl rfl ?_; refine WL.val rfl (run_move) ?_) | refine WL.no rfl rfl rfl (.inl rfl) ?_ | refine WL.no rfl rfl rfl (.inr rfl) ?_
            first | (refine WL.yes rfl rfl rfl ?_; refine WL.val rfl (run_move) ?_) | refine WL.no rfl rfl rfl (.inl rfl) ?_ | refine WL.no rfl rfl rfl (.inr rfl) ?_
            first | refine WL.no rfl rfl rfl (.inl rfl) ?_ | refine WL.no rfl rfl rfl (.inr rfl) ?_
            first | refine WL.val rfl (run_pickT rfl) ?_ | refine WL.val rfl (run_pickF rfl) ?_
            refine WL.val rfl (run_assign) ?_
            refine WL.nil ?_
            repeat (first | refine CW.seq ?_ | refine CW.block ?_ | refine CW.skip ?_ | refine CW.label ?_ | refine CW.exit ?_ | refine CW.condT rfl ?_ | refine CW.condF rfl ?_)
            refine CW.ret ?_
            refine fin_ret1 rfl ?_
            exact ⟨rfl, hs⟩
      | true =>
        have hact : ac = true := by rw [← hac]; exact ltR_trans hab hbc
        subst hact
        cases uac with
        | false =>
          cases uab with
          | false =>
            refine calls (n := 118) Tryd.func8 rfl rfl rfl ?_
            repeat (first | refine CW.seq ?_ | refine CW.block ?_ | refine CW.skip ?_ | refine CW.label ?_ | refine CW.exit ?_ | refine CW.condT rfl ?_ | refine CW.condF rfl ?_)
            refine CW.reg ?_
            refine WL.val rfl (run_assign) ?_
            refine WL.nil ?_
            repeat (first | refine CW.seq ?_ | refine CW.block ?_ | refine CW.skip ?_ | refine CW.label ?_ | refine CW.exit ?_ | refine CW.condT rfl ?_ | refine CW.condF rfl ?_)
            refine CW.reg ?_
            refine WL.enter rfl (run_call en11 rfl rfl) (hk _ hg) ?_
            rintro e w ⟨rfl, hq⟩
            refine ⟨_, rfl, ?_⟩
            replace hs := hs.callE hq
            first | refine WL.val rfl (run_notB rfl) ?_ | refine WL.val rfl (run_not rfl) ?_
            refine WL.nil ?_
            repeat (first | refine CW.seq ?_ | refine CW.block ?_ | refine CW.skip ?_ | refine CW.label ?_ | refine CW.exit ?_ | refine CW.condT rfl ?_ | refine CW.condF rfl ?_)
            refine CW.reg ?_
            refine WL.val rfl (run_move) ?_
            refine WL.val rfl (run_lenStr Tryd.underlying9 rfl) ?_
            refine WL.val rfl (run_bF (run_gtr rfl rfl) (by omega)) ?_
            refine WL.val rfl (run_move) ?_
            first | (refine WL.yes rfl rfl rfl ?_; refine WL.val rfl (run_move) ?_) | refine WL.no rfl rfl rfl (.inl rfl) ?_ | refine WL.no rfl rfl rfl (.inr rfl) ?_
            first | (refine WL.yes rfl rfl rfl ?_; refine WL.val rfl (run_lenStr Tryd.underlying9 rfl) ?_) | refine WL.no rfl rfl rfl (.inl rfl) ?_ | refine WL.no rfl rfl rfl (.inr rfl) ?_
            refine WL.yes rfl rfl rfl ?_
            refine WL.val rfl (run_bF (run_gtr rfl rfl) (by omega)) ?_
            first | refine WL.val rfl (run_pickT rfl) ?_ | refine WL.val rfl (run_pickF rfl) ?_
            refine WL.val rfl (run_move) ?_
            first | (refine WL.yes rfl rfl rfl ?_; refine WL.val rfl (run_move) ?_) | refine WL.no rfl rfl rfl (.inl rfl) ?_ | refine WL.no rfl rfl rfl (.inr rfl) ?_
            first | (refine WL.yes rfl rfl rfl ?_; refine WL.val rfl (run_lenStr Tryd.underlying9 rfl) ?_) | refine WL.no rfl rfl rfl (.inl rfl) ?_ | refine WL.no rfl rfl rfl (.inr rfl) ?_
            refine WL.yes rfl rfl rfl ?_
            refine WL.val rfl (run_bF (run_gtr rfl rfl) (by omega)) ?_
            first | refine WL.val rfl (run_pickT rfl) ?_ | refine WL.val rfl (run_pickF rfl) ?_
            refine WL.nil ?_
            repeat (first | refine CW.seq ?_ | refine CW.block ?_ | refine CW.skip ?_ | refine CW.label ?_ | refine CW.exit ?_ | refine CW.condT rfl ?_ | refine CW.condF rfl ?_)
            refine CW.reg ?_
            refine WL.val rfl (run_move) ?_
            refine WL.enter rfl (run_call en20 rfl rfl) (cNa _ (hg.step hs)) ?_
            rintro e w ⟨u, Lu, rfl, hu, hqs⟩
            refine ⟨_, rfl, ?_⟩
            have hxx := cellsOf hu hqs
            obtain ⟨a, c, hq3, hcl, hcx⟩ := hxx
            subst hq3
            replace hcx : Texts _ _ _ := hcx
            replace hs := hs.call0 (hqs.dropR (L1 := []))
            refine WL.val rfl (run_move) ?_
            refine WL.val rfl (run_extract rfl rfl) ?_
            refine WL.val rfl (run_extract rfl rfl) ?_
            refine WL.val rfl (run_assign) ?_
            refine WL.val rfl (run_assign) ?_
            refine WL.nil ?_
            repeat (first | refine CW.seq ?_ | refine CW.block ?_ | refine CW.skip ?_ | refine CW.label ?_ | refine CW.exit ?_ | refine CW.condT rfl ?_ | refine CW.condF rfl ?_)
            refine CW.reg ?_
            refine WL.val rfl (run_move) ?_
            refine WL.enter rfl (run_call en20 rfl rfl) (cNb _ (hg.step hs)) ?_
            rintro e w ⟨u2, Lv, rfl, hv, hq2⟩
            refine ⟨_, rfl, ?_⟩
            have hyy := cellsOf hv hq2
            obtain ⟨a2, c2, hq4, hcl2, hcy⟩ := hyy
            subst hq4
            replace hcy : Texts _ _ _ := hcy
            have hcx2 : Texts _ _ _ := Sl0.keep hcx hq2
            replace hs := hs.call0 (hq2.dropR (L1 := []))
            refine WL.val rfl (run_move) ?_
            refine WL.val rfl (run_extract rfl rfl) ?_
            refine WL.val rfl (run_extract rfl rfl) ?_
            refine WL.val rfl (run_assign) ?_
            refine WL.val rfl (run_assign) ?_
            refine WL.nil ?_
            repeat (first | refine CW.seq ?_ | refine CW.block ?_ | refine CW.skip ?_ | refine CW.label ?_ | refine CW.exit ?_ | refine CW.condT rfl ?_ | refine CW.condF rfl ?_)
            refine CW.reg ?_
            refine WL.val rfl (run_move) ?_
            first | refine WL.val rfl (run_notB rfl) ?_ | refine WL.val rfl (run_not rfl) ?_
            refine WL.val rfl (run_move) ?_
            first | (refine WL.yes rfl rfl rfl ?_; refine WL.val rfl (run_move) ?_) | refine WL.no rfl rfl rfl (.inl rfl) ?_ | refine WL.no rfl rfl rfl (.inr rfl) ?_
            first | (refine WL.yes rfl rfl rfl ?_; (first | refine WL.val rfl (run_notB rfl) ?_ | refine WL.val rfl (run_not rfl) ?_)) | refine WL.no rfl rfl rfl (.inl rfl) ?_ | refine WL.no rfl rfl rfl (.inr rfl) ?_
            first | refine WL.val rfl (run_pickT rfl) ?_ | refine WL.val rfl (run_pickF rfl) ?_
            refine WL.nil ?_
            repeat (first | refine CW.seq ?_ | refine CW.block ?_ | refine CW.skip ?_ | refine CW.label ?_ | refine CW.exit ?_ | refine CW.condT rfl ?_ | refine CW.condF rfl ?_)
            refine CW.reg ?_
            refine WL.val rfl (run_move) ?_
            refine WL.val rfl (run_move) ?_
            refine WL.enter rfl (run_call en28 rfl rfl) (cS _ hcx2 hcy) ?_
            rintro e w ⟨rfl, hq⟩
            refine ⟨_, rfl, ?_⟩
            replace hs := hs.callE hq
            refine WL.val rfl (run_assign) ?_
            refine WL.nil ?_
            repeat (first | refine CW.seq ?_ | refine CW.block ?_ | refine CW.skip ?_ | refine CW.label ?_ | refine CW.exit ?_ | refine CW.condT rfl ?_ | refine CW.condF rfl ?_)
            refine CW.reg ?_
            refine WL.val rfl (run_move) ?_
            refine WL.val rfl (run_move) ?_
            refine WL.enter rfl (run_call en24 rfl rfl) (cLab _ (hg.step hs)) ?_
            rintro e w ⟨rfl, hq⟩
            refine ⟨_, rfl, ?_⟩
            replace hs := hs.callE hq
            refine WL.val rfl (run_assign) ?_
            refine WL.nil ?_
            repeat (first | refine CW.seq ?_ | refine CW.block ?_ | refine CW.skip ?_ | refine CW.label ?_ | refine CW.exit ?_ | refine CW.condT rfl ?_ | refine CW.condF rfl ?_)
            refine CW.reg ?_
            refine WL.val rfl (run_move) ?_
            refine WL.val rfl (run_move) ?_
            refine WL.enter rfl (run_call en24 rfl rfl) (cLba _ (hg.step hs)) ?_
            rintro e w ⟨rfl, hq⟩
            refine ⟨_, rfl, ?_⟩
            replace hs := hs.callE hq
            refine WL.val rfl (run_assign) ?_
            refine WL.nil ?_
            repeat (first | refine CW.seq ?_ | refine CW.block ?_ | refine CW.skip ?_ | refine CW.label ?_ | refine CW.exit ?_ | refine CW.condT rfl ?_ | refine CW.condF rfl ?_)
            refine CW.reg ?_
            refine WL.val rfl (run_move) ?_
            refine WL.val rfl (run_move) ?_
            first | (refine WL.yes rfl rfl rfl ?_; refine WL.val rfl (run_move) ?_) | refine WL.no rfl rfl rfl (.inl rfl) ?_ | refine WL.no rfl rfl rfl (.inr rfl) ?_
            first | (refine WL.yes rfl rfl rfl ?_; refine WL.val rfl (run_move) ?_) | refine WL.no rfl rfl rfl (.inl rfl) ?_ | refine WL.no rfl rfl rfl (.inr rfl) ?_
            first | (refine WL.yes rfl rfl rfl ?_; refine WL.val rfl (run_move) ?_) | refine WL.no rfl rfl rfl (.inl rfl) ?_ | refine WL.no rfl rfl rfl (.inr rfl) ?_
            first | (refine WL.yes rfl rfl rfl ?_; (first | refine WL.val rfl (run_pickT rfl) ?_ | refine WL.val rfl (run_pickF rfl) ?_)) | refine WL.no rfl rfl rfl (.inl rfl) ?_ | refine WL.no rfl rfl rfl (.inr rfl) ?_
            first | (refine WL.yes rfl rfl rfl ?_; refine WL.val rfl (run_move) ?_) | refine WL.no rfl rfl rfl (.inl rfl) ?_ | refine WL.no rfl rfl rfl (.inr rfl) ?_
            first | (refine WL.yes rfl rfl rfl ?_; refine WL.val rfl (run_move) ?_) | refine WL.no rfl rfl rfl (.inl rfl) ?_ | refine WL.no rfl rfl rfl (.inr rfl) ?_
            first | (refine WL.yes rfl rfl rfl ?_; refine WL.val rfl (run_move) ?_) | refine WL.no rfl rfl rfl (.inl rfl) ?_ | refine WL.no rfl rfl rfl (.inr rfl) ?_
            first | refine WL.no rfl rfl rfl (.inl rfl) ?_ | refine WL.no rfl rfl rfl (.inr rfl) ?_
            first | (refine WL.yes rfl rfl rfl ?_; (first | refine WL.val rfl (run_notB rfl) ?_ | refine WL.val rfl (run_not rfl) ?_)) | refine WL.no rfl rfl rfl (.inl rfl) ?_ | refine WL.no rfl rfl rfl (.inr rfl) ?_
            first | (refine WL.yes rfl rfl rfl ?_; (first | refine WL.val rfl (run_pickT rfl) ?_ | refine WL.val rfl (run_pickF rfl) ?_)) | refine WL.no rfl rfl rfl (.inl rfl) ?_ | refine WL.no rfl rfl rfl (.inr rfl) ?_
            first | refine WL.val rfl (run_pickT rfl) ?_ | refine WL.val rfl (run_pickF rfl) ?_
            refine WL.val rfl (run_move) ?_
            first | (refine WL.yes rfl rfl rfl ?_; refine WL.val rfl (run_move) ?_) | refine WL.no rfl rfl rfl (.inl rfl) ?_ | refine WL.no rfl rfl rfl (.inr rfl) ?_
            first | (refine WL.yes rfl rfl rfl ?_; (first | refine WL.val rfl (run_notB rfl) ?_ | refine WL.val rfl (run_not rfl) ?_)) | refine WL.no rfl rfl rfl (.inl rfl) ?_ | refine WL.no rfl rfl rfl (.inr rfl) ?_
            first | (refine WL.yes rfl rfl rfl ?_; refine WL.val rfl (run_move) ?_) | refine WL.no rfl rfl rfl (.inl rfl) ?_ | refine WL.no rfl rfl rfl (.inr rfl) ?_
            first | (refine WL.yes rfl rfl rfl ?_; refine WL.val rfl (run_move) ?_) | refine WL.no rfl rfl rfl (.inl rfl) ?_ | refine WL.no rfl rfl rfl (.inr rfl) ?_
            first | (refine WL.yes rfl rfl rfl ?_; refine WL.val rfl (run_move) ?_) | refine WL.no rfl rfl rfl (.inl rfl) ?_ | refine WL.no rfl rfl rfl (.inr rfl) ?_
            refine WL.yes rfl rfl rfl ?_
            refine WL.val rfl (run_bE (run_eqlB Tryd.underlying4 rfl rfl) (show _ = false from rfl)) ?_
            first | (refine WL.yes rfl rfl rfl ?_; (first | refine WL.val rfl (run_pickT rfl) ?_ | refine WL.val rfl (run_pickF rfl) ?_)) | refine WL.no rfl rfl rfl (.inl rfl) ?_ | refine WL.no rfl rfl rfl (.inr rfl) ?_
            first | refine WL.val rfl (run_pickT rfl) ?_ | refine WL.val rfl (run_pickF rfl) ?_
            refine WL.nil ?_
            repeat (first | refine CW.seq ?_ | refine CW.block ?_ | refine CW.skip ?_ | refine CW.label ?_ | refine CW.exit ?_ | refine CW.condT rfl ?_ | refine CW.condF rfl ?_)
            refine CW.reg ?_
            refine WL.val rfl (run_move) ?_
            refine WL.val rfl (run_move) ?_
            first | (refine WL.yes rfl rfl rfl ?_; refine WL.val rfl (run_move) ?_) | refine WL.no rfl rfl rfl (.inl rfl) ?_ | refine WL.no rfl rfl rfl (.inr rfl) ?_
            first | (refine WL.yes rfl rfl rfl ?_; refine WL.val rfl (run_move) ?_) | refine WL.no rfl rfl rfl (.inl rfl) ?_ | refine WL.no rfl rfl rfl (.inr rfl) ?_
            refine WL.yes rfl rfl rfl ?_
            refine WL.enter rfl (run_call en24 rfl rfl) (cLbc _ (hg.step hs)) ?_
            rintro e w ⟨rfl, hq⟩
            refine ⟨_, rfl, ?_⟩
            replace hs := hs.callE hq
            first | refine WL.val rfl (run_pickT rfl) ?_ | refine WL.val rfl (run_pickF rfl) ?_
            refine WL.val rfl (run_move) ?_
            first | (refine WL.yes rfl rfl rfl ?_; refine WL.val rfl (run_move) ?_) | refine WL.no rfl rfl rfl (.inl rfl) ?_ | refine WL.no rfl rfl rfl (.inr rfl) ?_
            first | (refine WL.yes rfl rfl rfl ?_; refine WL.val rfl (run_move) ?_) | refine WL.no rfl rfl rfl (.inl rfl) ?_ | refine WL.no rfl rfl rfl (.inr rfl) ?_
            refine WL.yes rfl rfl rfl ?_
            refine WL.enter rfl (run_call en24 rfl rfl) (cLac _ (hg.step hs)) ?_
            rintro e w ⟨rfl, hq⟩
            refine ⟨_, rfl, ?_⟩
            replace hs := hs.callE hq
            first | (refine WL.yes rfl rfl rfl ?_; (first | refine WL.val rfl (run_notB rfl) ?_ | refine WL.val rfl (run_not rfl) ?_)) | refine WL.no rfl rfl rfl (.inl rfl) ?_ | refine WL.no rfl rfl rfl (.inr rfl) ?_
            first | refine WL.val rfl (run_pickT rfl) ?_ | refine WL.val rfl (run_pickF rfl) ?_
            refine WL.nil ?_
            repeat (first | refine CW.seq ?_ | refine CW.block ?_ | refine CW.skip ?_ | refine CW.label ?_ | refine CW.exit ?_ | refine CW.condT rfl ?_ | refine CW.condF rfl ?_)
            refine CW.reg ?_
            refine WL.val rfl (run_move) ?_
            refine WL.val rfl (run_move) ?_
            refine WL.enter rfl (run_call en26 rfl rfl) (cUab _ (hg.step hs)) ?_
            rintro e w ⟨rfl, hq⟩
            refine ⟨_, rfl, ?_⟩
            replace hs := hs.callE hq
            refine WL.val rfl (run_move) ?_
            first | (refine WL.yes rfl rfl rfl ?_; refine WL.val rfl (run_move) ?_) | refine WL.no rfl rfl rfl (.inl rfl) ?_ | refine WL.no rfl rfl rfl (.inr rfl) ?_
            first | (refine WL.yes rfl rfl rfl ?_; (first | refine WL.val rfl (run_notB rfl) ?_ | refine WL.val rfl (run_not rfl) ?_)) | refine WL.no rfl rfl rfl (.inl rfl) ?_ | refine WL.no rfl rfl rfl (.inr rfl) ?_
            first | refine WL.val rfl (run_pickT rfl) ?_ | refine WL.val rfl (run_pickF rfl) ?_
            refine WL.val rfl (run_move) ?_
            first | (refine WL.yes rfl rfl rfl ?_; refine WL.val rfl (run_move) ?_) | refine WL.no rfl rfl rfl (.inl rfl) ?_ | refine WL.no rfl rfl rfl (.inr rfl) ?_
            first | (refine WL.yes rfl rfl rfl ?_; (first | refine WL.val rfl (run_notB rfl) ?_ | refine WL.val rfl (run_not rfl) ?_)) | refine WL.no rfl rfl rfl (.inl rfl) ?_ | refine WL.no rfl rfl rfl (.inr rfl) ?_
            first | refine WL.val rfl (run_pickT rfl) ?_ | refine WL.val rfl (run_pickF rfl) ?_
            refine WL.nil ?_
            repeat (first | refine CW.seq ?_ | refine CW.block ?_ | refine CW.skip ?_ | refine CW.label ?_ | refine CW.exit ?_ | refine CW.condT rfl ?_ | refine CW.condF rfl ?_)
            refine CW.reg ?_
            refine WL.val rfl (run_move) ?_
            refine WL.val rfl (run_move) ?_
            refine WL.enter rfl (run_call en26 rfl rfl) (cUac _ (hg.step hs)) ?_
            rintro e w ⟨rfl, hq⟩
            refine ⟨_, rfl, ?_⟩
            replace hs := hs.callE hq
            first | refine WL.val rfl (run_notB rfl) ?_ | refine WL.val rfl (run_not rfl) ?_
            refine WL.val rfl (run_move) ?_
            first | (refine WL.yes rfl rfl rfl ?_; refine WL.val rfl (run_move) ?_) | refine WL.no rfl rfl rfl (.inl rfl) ?_ | refine WL.no rfl rfl rfl (.inr rfl) ?_
            first | (refine WL.yes rfl rfl rfl ?_; (first | refine WL.val rfl (run_notB rfl) ?_ | refine WL.val rfl (run_not rfl) ?_)) | refine WL.no rfl rfl rfl (.inl rfl) ?_ | refine WL.no rfl rfl rfl (.inr rfl) ?_
            first | refine WL.val rfl (run_pickT rfl) ?_ | refine WL.val rfl (run_pickF rfl) ?_
            refine WL.val rfl (run_move) ?_
            first | (refine WL.yes rfl rfl rfl ?_; refine WL.val rfl (run_move) ?_) | refine WL.no rfl rfl rfl (.inl rfl) ?_ | refine WL.no rfl rfl rfl (.inr rfl) ?_
            first | (refine WL.yes rfl rfl rfl ?_; refine WL.val rfl (run_move) ?_) | refine WL.no rfl rfl rfl (.inl rfl) ?_ | refine WL.no rfl rfl rfl (.inr rfl) ?_
            first | refine WL.no rfl rfl rfl (.inl rfl) ?_ | refine WL.no rfl rfl rfl (.inr rfl) ?_
            first | (refine WL.yes rfl rfl rfl ?_; (first | refine WL.val rfl (run_notB rfl) ?_ | refine WL.val rfl (run_not rfl) ?_)) | refine WL.no rfl rfl rfl (.inl rfl) ?_ | refine WL.no rfl rfl rfl (.inr rfl) ?_
            first | refine WL.val rfl (run_pickT rfl) ?_ | refine WL.val rfl (run_pickF rfl) ?_
            refine WL.val rfl (run_move) ?_
            first | (refine WL.yes rfl rfl rfl ?_; refine WL.val rfl (run_move) ?_) | refine WL.no rfl rfl rfl (.inl rfl) ?_ | refine WL.no rfl rfl rfl (.inr rfl) ?_
            first | (refine WL.yes rfl rfl rfl ?_; refine WL.val rfl (run_move) ?_) | refine WL.no rfl rfl rfl (.inl rfl) ?_ | refine WL.no rfl rfl rfl (.inr rfl) ?_
            first | refine WL.no rfl rfl rfl (.inl rfl) ?_ | refine WL.no rfl rfl rfl (.inr rfl) ?_
            first | refine WL.val rfl (run_pickT rfl) ?_ | refine WL.val rfl (run_pickF rfl) ?_
            refine WL.val rfl (run_assign) ?_
            refine WL.nil ?_
            repeat (first | refine CW.seq ?_ | refine CW.block ?_ | refine CW.skip ?_ | refine CW.label ?_ | refine CW.exit ?_ | refine CW.condT rfl ?_ | refine CW.condF rfl ?_)
            refine CW.ret ?_
            refine fin_ret1 rfl ?_
            exact ⟨rfl, hs⟩
          | true =>
            refine calls (n := 118) Tryd.func8 rfl rfl rfl ?_
            repeat (first | refine CW.seq ?_ | refine CW.block ?_ | refine CW.skip ?_ | refine CW.label ?_ | refine CW.exit ?_ | refine CW.condT rfl ?_ | refine CW.condF rfl ?_)
            refine CW.reg ?_
            refine WL.val rfl (run_assign) ?_
            refine WL.nil ?_
            repeat (first | refine CW.seq ?_ | refine CW.block ?_ | refine CW.skip ?_ | refine CW.label ?_ | refine CW.exit ?_ | refine CW.condT rfl ?_ | refine CW.condF rfl ?_)
            refine CW.reg ?_
            refine WL.enter rfl (run_call en11 rfl rfl) (hk _ hg) ?_
            rintro e w ⟨rfl, hq⟩
            refine ⟨_, rfl, ?_⟩
            replace hs := hs.callE hq
            first | refine WL.val rfl (run_notB rfl) ?_ | refine WL.val rfl (run_not rfl) ?_
            refine WL.nil ?_
            repeat (first | refine CW.seq ?_ | refine CW.block ?_ | refine CW.skip ?_ | refine CW.label ?_ | refine CW.exit ?_ | refine CW.condT rfl ?_ | refine CW.condF rfl ?_)
            refine CW.reg ?_
            refine WL.val rfl (run_move) ?_
            refine WL.val rfl (run_lenStr Tryd.underlying9 rfl) ?_
            refine WL.val rfl (run_bF (run_gtr rfl rfl) (by omega)) ?_
            refine WL.val rfl (run_move) ?_
            first | (refine WL.yes rfl rfl rfl ?_; refine WL.val rfl (run_move) ?_) | refine WL.no rfl rfl rfl (.inl rfl) ?_ | refine WL.no rfl rfl rfl (.inr rfl) ?_
            first | (refine WL.yes rfl rfl rfl ?_; refine WL.val rfl (run_lenStr Tryd.underlying9 rfl) ?_) | refine WL.no rfl rfl rfl (.inl rfl) ?_ | refine WL.no rfl rfl rfl (.inr rfl) ?_
            refine WL.yes rfl rfl rfl ?_
            refine WL.val rfl (run_bF (run_gtr rfl rfl) (by omega)) ?_
            first | refine WL.val rfl (run_pickT rfl) ?_ | refine WL.val rfl (run_pickF rfl) ?_
            refine WL.val rfl (run_move) ?_
            first | (refine WL.yes rfl rfl rfl ?_; refine WL.val rfl (run_move) ?_) | refine WL.no rfl rfl rfl (.inl rfl) ?_ | refine WL.no rfl rfl rfl (.inr rfl) ?_
            first | (refine WL.yes rfl rfl rfl ?_; refine WL.val rfl (run_lenStr Tryd.underlying9 rfl) ?_) | refine WL.no rfl rfl rfl (.inl rfl) ?_ | refine WL.no rfl rfl rfl (.inr rfl) ?_
            refine WL.yes rfl rfl rfl ?_
            refine WL.val rfl (run_bF (run_gtr rfl rfl) (by omega)) ?_
            first | refine WL.val rfl (run_pickT rfl) ?_ | refine WL.val rfl (run_pickF rfl) ?_
            refine WL.nil ?_
            repeat (first | refine CW.seq ?_ | refine CW.block ?_ | refine CW.skip ?_ | refine CW.label ?_ | refine CW.exit ?_ | refine CW.condT rfl ?_ | refine CW.condF rfl ?_)
            refine CW.reg ?_
            refine WL.val rfl (run_move) ?_
            refine WL.enter rfl (run_call en20 rfl rfl) (cNa _ (hg.step hs)) ?_
            rintro e w ⟨u, Lu, rfl, hu, hqs⟩
            refine ⟨_, rfl, ?_⟩
            have hxx := cellsOf hu hqs
            obtain ⟨a, c, hq3, hcl, hcx⟩ := hxx
            subst hq3
            replace hcx : Texts _ _ _ := hcx
            replace hs := hs.call0 (hqs.dropR (L1 := []))
            refine WL.val rfl (run_move) ?_
            refine WL.val rfl (run_extract rfl rfl) ?_
            refine WL.val rfl (run_extract rfl rfl) ?_
            refine WL.val rfl (run_assign) ?_
            refine WL.val rfl (run_assign) ?_
            refine WL.nil ?_
            repeat (first | refine CW.seq ?_ | refine CW.block ?_ | refine CW.skip ?_ | refine CW.label ?_ | refine CW.exit ?_ | refine CW.condT rfl ?_ | refine CW.condF rfl ?_)
            refine CW.reg ?_
            refine WL.val rfl (run_move) ?_
            refine WL.enter rfl (run_call en20 rfl rfl) (cNb _ (hg.step hs)) ?_
            rintro e w ⟨u2, Lv, rfl, hv, hq2⟩
            refine ⟨_, rfl, ?_⟩
            have hyy := cellsOf hv hq2
            obtain ⟨a2, c2, hq4, hcl2, hcy⟩ := hyy
            subst hq4
            replace hcy : Texts _ _ _ := hcy
            have hcx2 : Texts _ _ _ := Sl0.keep hcx hq2
            replace hs := hs.call0 (hq2.dropR (L1 := []))
            refine WL.val rfl (run_move) ?_
            refine WL.val rfl (run_extract rfl rfl) ?_
            refine WL.val rfl (run_extract rfl rfl) ?_
            refine WL.val rfl (run_assign) ?_
            refine WL.val rfl (run_assign) ?_
            refine WL.nil ?_
            repeat (first | refine CW.seq ?_ | refine CW.block ?_ | refine CW.skip ?_ | refine CW.label ?_ | refine CW.exit ?_ | refine CW.condT rfl ?_ | refine CW.condF rfl ?_)
            refine CW.reg ?_
            refine WL.val rfl (run_move) ?_
            first | refine WL.val rfl (run_notB rfl) ?_ | refine WL.val rfl (run_not rfl) ?_
            refine WL.val rfl (run_move) ?_
            first | (refine WL.yes rfl rfl rfl ?_; refine WL.val rfl (run_move) ?_) | refine WL.no rfl rfl rfl (.inl rfl) ?_ | refine WL.no rfl rfl rfl (.inr rfl) ?_
            first | (refine WL.yes rfl rfl rfl ?_; (first | refine WL.val rfl (run_notB rfl) ?_ | refine WL.val rfl (run_not rfl) ?_)) | refine WL.no rfl rfl rfl (.inl rfl) ?_ | refine WL.no rfl rfl rfl (.inr rfl) ?_
            first | refine WL.val rfl (run_pickT rfl) ?_ | refine WL.val rfl (run_pickF rfl) ?_
            refine WL.nil ?_
            repeat (first | refine CW.seq ?_ | refine CW.block ?_ | refine CW.skip ?_ | refine CW.label ?_ | refine CW.exit ?_ | refine CW.condT rfl ?_ | refine CW.condF rfl ?_)
            refine CW.reg ?_
            refine WL.val rfl (run_move) ?_
            refine WL.val rfl (run_move) ?_
            refine WL.enter rfl (run_call en28 rfl rfl) (cS _ hcx2 hcy) ?_
            rintro e w ⟨rfl, hq⟩
            refine ⟨_, rfl, ?_⟩
            replace hs := hs.callE hq
            refine WL.val rfl (run_assign) ?_
            refine WL.nil ?_
            repeat (first | refine CW.seq ?_ | refine CW.block ?_ | refine CW.skip ?_ | refine CW.label ?_ | refine CW.exit ?_ | refine CW.condT rfl ?_ | refine CW.condF rfl ?_)
            refine CW.reg ?_
            refine WL.val rfl (run_move) ?_
            refine WL.val rfl (run_move) ?_
            refine WL.enter rfl (run_call en24 rfl rfl) (cLab _ (hg.step hs)) ?_
            rintro e w ⟨rfl, hq⟩
            refine ⟨_, rfl, ?_⟩
            replace hs := hs.callE hq
            refine WL.val rfl (run_assign) ?_
            refine WL.nil ?_
            repeat (first | refine CW.seq ?_ | refine CW.block ?_ | refine CW.skip ?_ | refine CW.label ?_ | refine CW.exit ?_ | refine CW.condT rfl ?_ | refine CW.condF rfl ?_)
            refine CW.reg ?_
            refine WL.val rfl (run_move) ?_
            refine WL.val rfl (run_move) ?_
            refine WL.enter rfl (run_call en24 rfl rfl) (cLba _ (hg.step hs)) ?_
            rintro e w ⟨rfl, hq⟩
            refine ⟨_, rfl, ?_⟩
            replace hs := hs.callE hq
            refine WL.val rfl (run_assign) ?_
            refine WL.nil ?_
            repeat (first | refine CW.seq ?_ | refine CW.block ?_ | refine CW.skip ?_ | refine CW.label ?_ | refine CW.exit ?_ | refine CW.condT rfl ?_ | refine CW.condF rfl ?_)
            refine CW.reg ?_
            refine WL.val rfl (run_move) ?_
            refine WL.val rfl (run_move) ?_
            first | (refine WL.yes rfl rfl rfl ?_; refine WL.val rfl (run_move) ?_) | refine WL.no rfl rfl rfl (.inl rfl) ?_ | refine WL.no rfl rfl rfl (.inr rfl) ?_
            first | (refine WL.yes rfl rfl rfl ?_; refine WL.val rfl (run_move) ?_) | refine WL.no rfl rfl rfl (.inl rfl) ?_ | refine WL.no rfl rfl rfl (.inr rfl) ?_
            first | (refine WL.yes rfl rfl rfl ?_; refine WL.val rfl (run_move) ?_) | refine WL.no rfl rfl rfl (.inl rfl) ?_ | refine WL.no rfl rfl rfl (.inr rfl) ?_
            first | (refine WL.yes rfl rfl rfl ?_; (first | refine WL.val rfl (run_pickT rfl) ?_ | refine WL.val rfl (run_pickF rfl) ?_)) | refine WL.no rfl rfl rfl (.inl rfl) ?_ | refine WL.no rfl rfl rfl (.inr rfl) ?_
            first | (refine WL.yes rfl rfl rfl ?_; refine WL.val rfl (run_move) ?_) | refine WL.no rfl rfl rfl (.inl rfl) ?_ | refine WL.no rfl rfl rfl (.inr rfl) ?_
            first | (refine WL.yes rfl rfl rfl ?_; refine WL.val rfl (run_move) ?_) | refine WL.no rfl rfl rfl (.inl rfl) ?_ | refine WL.no rfl rfl rfl (.inr rfl) ?_
            first | (refine WL.yes rfl rfl rfl ?_; refine WL.val rfl (run_move) ?_) | refine WL.no rfl rfl rfl (.inl rfl) ?_ | refine WL.no rfl rfl rfl (.inr rfl) ?_
            first | refine WL.no rfl rfl rfl (.inl rfl) ?_ | refine WL.no rfl rfl rfl (.inr rfl) ?_
            first | (refine WL.yes rfl rfl rfl ?_; (first | refine WL.val rfl (run_notB rfl) ?_ | refine WL.val rfl (run_not rfl) ?_)) | refine WL.no rfl rfl rfl (.inl rfl) ?_ | refine WL.no rfl rfl rfl (.inr rfl) ?_
            first | (refine WL.yes rfl rfl rfl ?_; (first | refine WL.val rfl (run_pickT rfl) ?_ | refine WL.val rfl (run_pickF rfl) ?_)) | refine WL.no rfl rfl rfl (.inl rfl) ?_ | refine WL.no rfl rfl rfl (.inr rfl) ?_
            first | refine WL.val rfl (run_pickT rfl) ?_ | refine WL.val rfl (run_pickF rfl) ?_
            refine WL.val rfl (run_move) ?_
            first | (refine WL.yes rfl rfl rfl ?_; refine WL.val rfl (run_move) ?_) | refine WL.no rfl rfl rfl (.inl rfl) ?_ | refine WL.no rfl rfl rfl (.inr rfl) ?_
            first | (refine WL.yes rfl rfl rfl ?_; (first | refine WL.val rfl (run_notB rfl) ?_ | refine WL.val rfl (run_not rfl) ?_)) | refine WL.no rfl rfl rfl (.inl rfl) ?_ | refine WL.no rfl rfl rfl (.inr rfl) ?_
            first | (refine WL.yes rfl rfl rfl ?_; refine WL.val rfl (run_move) ?_) | refine WL.no rfl rfl rfl (.inl rfl) ?_ | refine WL.no rfl rfl rfl (.inr rfl) ?_
            first | (refine WL.yes rfl rfl rfl ?_; refine WL.val rfl (run_move) ?_) | refine WL.no rfl rfl rfl (.inl rfl) ?_ | refine WL.no rfl rfl rfl (.inr rfl) ?_
            first | (refine WL.yes rfl rfl rfl ?_; refine WL.val rfl (run_move) ?_) | refine WL.no rfl rfl rfl (.inl rfl) ?_ | refine WL.no rfl rfl rfl (.inr rfl) ?_
            refine WL.yes rfl rfl rfl ?_
            refine WL.val rfl (run_bE (run_eqlB Tryd.underlying4 rfl rfl) (show _ = false from rfl)) ?_
            first | (refine WL.yes rfl rfl rfl ?_; (first | refine WL.val rfl (run_pickT rfl) ?_ | refine WL.val rfl (run_pickF rfl) ?_)) | refine WL.no rfl rfl rfl (.inl rfl) ?_ | refine WL.no rfl rfl rfl (.inr rfl) ?_
            first | refine WL.val rfl (run_pickT rfl) ?_ | refine WL.val rfl (run_pickF rfl) ?_
            refine WL.nil ?_
            repeat (first | refine CW.seq ?_ | refine CW.block ?_ | refine CW.skip ?_ | refine CW.label ?_ | refine CW.exit ?_ | refine CW.condT rfl ?_ | refine CW.condF rfl ?_)
            refine CW.reg ?_
            refine WL.val rfl (run_move) ?_
            refine WL.val rfl (run_move) ?_
            first | (refine WL.yes rfl rfl rfl ?_; refine WL.val rfl (run_move) ?_) | refine WL.no rfl rfl rfl (.inl rfl) ?_ | refine WL.no rfl rfl rfl (.inr rfl) ?_
            first | (refine WL.yes rfl rfl rfl ?_; refine WL.val rfl (run_move) ?_) | refine WL.no rfl rfl rfl (.inl rfl) ?_ | refine WL.no rfl rfl rfl (.inr rfl) ?_
            refine WL.yes rfl rfl rfl ?_
            refine WL.enter rfl (run_call en24 rfl rfl) (cLbc _ (hg.step hs)) ?_
            rintro e w ⟨rfl, hq⟩
            refine ⟨_, rfl, ?_⟩
            replace hs := hs.callE hq
            first | refine WL.val rfl (run_pickT rfl) ?_ | refine WL.val rfl (run_pickF rfl) ?_
            refine WL.val rfl (run_move) ?_
            first | (refine WL.yes rfl rfl rfl ?_; refine WL.val rfl (run_move) ?_) | refine WL.no rfl rfl rfl (.inl rfl) ?_ | refine WL.no rfl rfl rfl (.inr rfl) ?_
            first | (refine WL.yes rfl rfl rfl ?_; refine WL.val rfl (run_move) ?_) | refine WL.no rfl rfl rfl (.inl rfl) ?_ | refine WL.no rfl rfl rfl (.inr rfl) ?_
            refine WL.yes rfl rfl rfl ?_
            refine WL.enter rfl (run_call en24 rfl rfl) (cLac _ (hg.step hs)) ?_
            rintro e w ⟨rfl, hq⟩
            refine ⟨_, rfl, ?_⟩
            replace hs := hs.callE hq
            first | (refine WL.yes rfl rfl rfl ?_; (first | refine WL.val rfl (run_notB rfl) ?_ | refine WL.val rfl (run_not rfl) ?_)) | refine WL.no rfl rfl rfl (.inl rfl) ?_ | refine WL.no rfl rfl rfl (.inr rfl) ?_
            first | refine WL.val rfl (run_pickT rfl) ?_ | refine WL.val rfl (run_pickF rfl) ?_
            refine WL.nil ?_
            repeat (first | refine CW.seq ?_ | refine CW.block ?_ | refine CW.skip ?_ | refine CW.label ?_ | refine CW.exit ?_ | refine CW.condT rfl ?_ | refine CW.condF rfl ?_)
            refine CW.reg ?_
            refine WL.val rfl (run_move) ?_
            refine WL.val rfl (run_move) ?_
            refine WL.enter rfl (run_call en26 rfl rfl) (cUab _ (hg.step hs)) ?_
            rintro e w ⟨rfl, hq⟩
            refine ⟨_, rfl, ?_⟩
            replace hs := hs.callE hq
            refine WL.val rfl (run_move) ?_
            first | (refine WL.yes rfl rfl rfl ?_; refine WL.val rfl (run_move) ?_) | refine WL.no rfl rfl rfl (.inl rfl) ?_ | refine WL.no rfl rfl rfl (.inr rfl) ?_
            first | (refine WL.yes rfl rfl rfl ?_; (first | refine WL.val rfl (run_notB rfl) ?_ | refine WL.val rfl (run_not rfl) ?_)) | refine WL.no rfl rfl rfl (.inl rfl) ?_ | refine WL.no rfl rfl rfl (.inr rfl) ?_
            first | refine WL.val rfl (run_pickT rfl) ?_ | refine WL.val rfl (run_pickF rfl) ?_
            refine WL.val rfl (run_move) ?_
            first | (refine WL.yes rfl rfl rfl ?_; refine WL.val rfl (run_move) ?_) | refine WL.no rfl rfl rfl (.inl rfl) ?_ | refine WL.no rfl rfl rfl (.inr rfl) ?_
            first | (refine WL.yes rfl rfl rfl ?_; (first | refine WL.val rfl (run_notB rfl) ?_ | refine WL.val rfl (run_not rfl) ?_)) | refine WL.no rfl rfl rfl (.inl rfl) ?_ | refine WL.no rfl rfl rfl (.inr rfl) ?_
            first | refine WL.val rfl (run_pickT rfl) ?_ | refine WL.val rfl (run_pickF rfl) ?_
            refine WL.nil ?_
            repeat (first | refine CW.seq ?_ | refine CW.block ?_ | refine CW.skip ?_ | refine CW.label ?_ | refine CW.exit ?_ | refine CW.condT rfl ?_ | refine CW.condF rfl ?_)
            refine CW.reg ?_
            refine WL.val rfl (run_move) ?_
            refine WL.val rfl (run_move) ?_
            refine WL.enter rfl (run_call en26 rfl rfl) (cUac _ (hg.step hs)) ?_
            rintro e w ⟨rfl, hq⟩
            refine ⟨_, rfl, ?_⟩
            replace hs := hs.callE hq
            first | refine WL.val rfl (run_notB rfl) ?_ | refine WL.val rfl (run_not rfl) ?_
            refine WL.val rfl (run_move) ?_
            first | (refine WL.yes rfl rfl rfl ?_; refine WL.val rfl (run_move) ?_) | refine WL.no rfl rfl rfl (.inl rfl) ?_ | refine WL.no rfl rfl rfl (.inr rfl) ?_
            first | (refine WL.yes rfl rfl rfl ?_; (first | refine WL.val rfl (run_notB rfl) ?_ | refine WL.val rfl (run_not rfl) ?_)) | refine WL.no rfl rfl rfl (.inl rfl) ?_ | refine WL.no rfl rfl rfl (.inr rfl) ?_
            first | refine WL.val rfl (run_pickT rfl) ?_ | refine WL.val rfl (run_pickF rfl) ?_
            refine WL.val rfl (run_move) ?_
            first | (refine WL.yes rfl rfl rfl ?_; refine WL.val rfl (run_move) ?_) | refine WL.no rfl rfl rfl (.inl rfl) ?_ | refine WL.no rfl rfl rfl (.inr rfl) ?_
            first | (refine WL.yes rfl rfl rfl ?_; refine WL.val rfl (run_move) ?_) | refine WL.no rfl rfl rfl (.inl rfl) ?_ | refine WL.no rfl rfl rfl (.inr rfl) ?_
            first | refine WL.no rfl rfl rfl (.inl rfl) ?_ | refine WL.no rfl rfl rfl (.inr rfl) ?_
            first | (refine WL.yes rfl rfl rfl ?_; (first | refine WL.val rfl (run_notB rfl) ?_ | refine WL.val rfl (run_not rfl) ?_)) | refine WL.no rfl rfl rfl (.inl rfl) ?_ | refine WL.no rfl rfl rfl (.inr rfl) ?_
            first | refine WL.val rfl (run_pickT rfl) ?_ | refine WL.val rfl (run_pickF rfl) ?_
            refine WL.val rfl (run_move) ?_
            first | (refine WL.yes rfl rfl rfl ?_; refine WL.val rfl (run_move) ?_) | refine WL.no rfl rfl rfl (.inl rfl) ?_ | refine WL.no rfl rfl rfl (.inr rfl) ?_
            first | (refine WL.yes rfl rfl rfl ?_; refine WL.val rfl (run_move) ?_) | refine WL.no rfl rfl rfl (.inl rfl) ?_ | refine WL.no rfl rfl rfl (.inr rfl) ?_
            first | refine WL.no rfl rfl rfl (.inl rfl) ?_ | refine WL.no rfl rfl rfl (.inr rfl) ?_
            first | refine WL.val rfl (run_pickT rfl) ?_ | refine WL.val rfl (run_pickF rfl) ?_
            refine WL.val rfl (run_assign) ?_
            refine WL.nil ?_
            repeat (first | refine CW.seq ?_ | refine CW.block ?_ | refine CW.skip ?_ | refine CW.label ?_ | refine CW.exit ?_ | refine CW.condT rfl ?_ | refine CW.condF rfl ?_)
            refine CW.ret ?_
            refine fin_ret1 rfl ?_
            exact ⟨rfl, hs⟩
        | true =>
          have hub : uab = true := by rw [← huab]; exact ltR_between huac hab hbc
          subst hub
          refine calls (n := 118) Tryd.func8 rfl rfl rfl ?_
          repeat (first | refine CW.seq ?_ | refine CW.block ?_ | refine CW.skip ?_ | refine CW.label ?_ | refine CW.exit ?_ | refine CW.condT rfl ?_ | refine CW.condF rfl ?_)
          refine CW.reg ?_
          refine WL.val rfl (run_assign) ?_
          refine WL.nil ?_
          repeat (first | refine CW.seq ?_ | refine CW.block ?_ | refine CW.skip ?_ | refine CW.label ?_ | refine CW.exit ?_ | refine CW.condT rfl ?_ | refine CW.condF rfl ?_)
          refine CW.reg ?_
          refine WL.enter rfl (run_call en11 rfl rfl) (hk _ hg) ?_
          rintro e w ⟨rfl, hq⟩
          refine ⟨_, rfl, ?_⟩
          replace hs := hs.callE hq
          first | refine WL.val rfl (run_notB rfl) ?_ | refine WL.val rfl (run_not rfl) ?_
          refine WL.nil ?_
          repeat (first | refine CW.seq ?_ | refine CW.block ?_ | refine CW.skip ?_ | refine CW.label ?_ | refine CW.exit ?_ | refine CW.condT rfl ?_ | refine CW.condF rfl ?_)
          refine CW.reg ?_
          refine WL.val rfl (run_move) ?_
          refine WL.val rfl (run_lenStr Tryd.underlying9 rfl) ?_
          refine WL.val rfl (run_bF (run_gtr rfl rfl) (by omega)) ?_
          refine WL.val rfl (run_move) ?_
          first | (refine WL.yes rfl rfl rfl ?_; refine WL.val rfl (run_move) ?_) | refine WL.no rfl rfl rfl (.inl rfl) ?_ | refine WL.no rfl rfl rfl (.inr rfl) ?_
          first | (refine WL.yes rfl rfl rfl ?_; refine WL.val rfl (run_lenStr Tryd.underlying9 rfl) ?_) | refine WL.no rfl rfl rfl (.inl rfl) ?_ | refine WL.no rfl rfl rfl (.inr rfl) ?_
          refine WL.yes rfl rfl rfl ?_
          refine WL.val rfl (run_bF (run_gtr rfl rfl) (by omega)) ?_
          first | refine WL.val rfl (run_pickT rfl) ?_ | refine WL.val rfl (run_pickF rfl) ?_
          refine WL.val rfl (run_move) ?_
          first | (refine WL.yes rfl rfl rfl ?_; refine WL.val rfl (run_move) ?_) | refine WL.no rfl rfl rfl (.inl rfl) ?_ | refine WL.no rfl rfl rfl (.inr rfl) ?_
          first | (refine WL.yes rfl rfl rfl ?_; refine WL.val rfl (run_lenStr Tryd.underlying9 rfl) ?_) | refine WL.no rfl rfl rfl (.inl rfl) ?_ | refine WL.no rfl rfl rfl (.inr rfl) ?_
          refine WL.yes rfl rfl rfl ?_
          refine WL.val rfl (run_bF (run_gtr rfl rfl) (by omega)) ?_
          first | refine WL.val rfl (run_pickT rfl) ?_ | refine WL.val rfl (run_pickF rfl) ?_
          refine WL.nil ?_
          repeat (first | refine CW.seq ?_ | refine CW.block ?_ | refine CW.skip ?_ | refine CW.label ?_ | refine CW.exit ?_ | refine CW.condT rfl ?_ | refine CW.condF rfl ?_)
          refine CW.reg ?_
          refine WL.val rfl (run_move) ?_
          refine WL.enter rfl (run_call en20 rfl rfl) (cNa _ (hg.step hs)) ?_
          rintro e w ⟨u, Lu, rfl, hu, hqs⟩
          refine ⟨_, rfl, ?_⟩
          have hxx := cellsOf hu hqs
          obtain ⟨a, c, hq3, hcl, hcx⟩ := hxx
          subst hq3
          replace hcx : Texts _ _ _ := hcx
          replace hs := hs.call0 (hqs.dropR (L1 := []))
          refine WL.val rfl (run_move) ?_
          refine WL.val rfl (run_extract rfl rfl) ?_
          refine WL.val rfl (run_extract rfl rfl) ?_
          refine WL.val rfl (run_assign) ?_
          refine WL.val rfl (run_assign) ?_
          refine WL.nil ?_
          repeat (first | refine CW.seq ?_ | refine CW.block ?_ | refine CW.skip ?_ | refine CW.label ?_ | refine CW.exit ?_ | refine CW.condT rfl ?_ | refine CW.condF rfl ?_)
          refine CW.reg ?_
          refine WL.val rfl (run_move) ?_
          refine WL.enter rfl (run_call en20 rfl rfl) (cNb _ (hg.step hs)) ?_
          rintro e w ⟨u2, Lv, rfl, hv, hq2⟩
          refine ⟨_, rfl, ?_⟩
          have hyy := cellsOf hv hq2
          obtain ⟨a2, c2, hq4, hcl2, hcy⟩ := hyy
          subst hq4
          replace hcy : Texts _ _ _ := hcy
          have hcx2 : Texts _ _ _ := Sl0.keep hcx hq2
          replace hs := hs.call0 (hq2.dropR (L1 := []))
          refine WL.val rfl (run_move) ?_
          refine WL.val rfl (run_extract rfl rfl) ?_
          refine WL.val rfl (run_extract rfl rfl) ?_
          refine WL.val rfl (run_assign) ?_
          refine WL.val rfl (run_assign) ?_
          refine WL.nil ?_
          repeat (first | refine CW.seq ?_ | refine CW.block ?_ | refine CW.skip ?_ | refine CW.label ?_ | refine CW.exit ?_ | refine CW.condT rfl ?_ | refine CW.condF rfl ?_)
          refine CW.reg ?_
          refine WL.val rfl (run_move) ?_
          first | refine WL.val rfl (run_notB rfl) ?_ | refine WL.val rfl (run_not rfl) ?_
          refine WL.val rfl (run_move) ?_
          first | (refine WL.yes rfl rfl rfl ?_; refine WL.val rfl (run_move) ?_) | refine WL.no rfl rfl rfl (.inl rfl) ?_ | refine WL.no rfl rfl rfl (.inr rfl) ?_
          first | (refine WL.yes rfl rfl rfl ?_; (first | refine WL.val rfl (run_notB rfl) ?_ | refine WL.val rfl (run_not rfl) ?_)) | refine WL.no rfl rfl rfl (.inl rfl) ?_ | refine WL.no rfl rfl rfl (.inr rfl) ?_
          first | refine WL.val rfl (run_pickT rfl) ?_ | refine WL.val rfl (run_pickF rfl) ?_
          refine WL.nil ?_
          repeat (first | refine CW.seq ?_ | refine CW.block ?_ | refine CW.skip ?_ | refine CW.label ?_ | refine CW.exit ?_ | refine CW.condT rfl ?_ | refine CW.condF rfl ?_)
          refine CW.reg ?_
          refine WL.val rfl (run_move) ?_
          refine WL.val rfl (run_move) ?_
          refine WL.enter rfl (run_call en28 rfl rfl) (cS _ hcx2 hcy) ?_
          rintro e w ⟨rfl, hq⟩
          refine ⟨_, rfl, ?_⟩
          replace hs := hs.callE hq
          refine WL.val rfl (run_assign) ?_
          refine WL.nil ?_
          repeat (first | refine CW.seq ?_ | refine CW.block ?_ | refine CW.skip ?_ | refine CW.label ?_ | refine CW.exit ?_ | refine CW.condT rfl ?_ | refine CW.condF rfl ?_)
          refine CW.reg ?_
          refine WL.val rfl (run_move) ?_
          refine WL.val rfl (run_move) ?_
          refine WL.enter rfl (run_call en24 rfl rfl) (cLab _ (hg.step hs)) ?_
          rintro e w ⟨rfl, hq⟩
          refine ⟨_, rfl, ?_⟩
          replace hs := hs.callE hq
          refine WL.val rfl (run_assign) ?_
          refine WL.nil ?_
          repeat (first | refine CW.seq ?_ | refine CW.block ?_ | refine CW.skip ?_ | refine CW.label ?_ | refine CW.exit ?_ | refine CW.condT rfl ?_ | refine CW.condF rfl ?_)
          refine CW.reg ?_
          refine WL.val rfl (run_move) ?_
          refine WL.val rfl (run_move) ?_
          refine WL.enter rfl (run_call en24 rfl rfl) (cLba _ (hg.step hs)) ?_
          rintro e w ⟨rfl, hq⟩
          refine ⟨_, rfl, ?_⟩
          replace hs := hs.callE hq
          refine WL.val rfl (run_assign) ?_
          refine WL.nil ?_
          repeat (first | refine CW.seq ?_ | refine CW.block ?_ | refine CW.skip ?_ | refine CW.label ?_ | refine CW.exit ?_ | refine CW.condT rfl ?_ | refine CW.condF rfl ?_)
          refine CW.reg ?_
          refine WL.val rfl (run_move) ?_
          refine WL.val rfl (run_move) ?_
          first | (refine WL.yes rfl rfl rfl ?_; refine WL.val rfl (run_move) ?_) | refine WL.no rfl rfl rfl (.inl rfl) ?_ | refine WL.no rfl rfl rfl (.inr rfl) ?_
          first | (refine WL.yes rfl rfl rfl ?_; refine WL.val rfl (run_move) ?_) | refine WL.no rfl rfl rfl (.inl rfl) ?_ | refine WL.no rfl rfl rfl (.inr rfl) ?_
          first | (refine WL.yes rfl rfl rfl ?_; refine WL.val rfl (run_move) ?_) | refine WL.no rfl rfl rfl (.inl rfl) ?_ | refine WL.no rfl rfl rfl (.inr rfl) ?_
          first | (refine WL.yes rfl rfl rfl ?_; (first | refine WL.val rfl (run_pickT rfl) ?_ | refine WL.val rfl (run_pickF rfl) ?_)) | refine WL.no rfl rfl rfl (.inl rfl) ?_ | refine WL.no rfl rfl rfl (.inr rfl) ?_
          first | (refine WL.yes rfl rfl rfl ?_; refine WL.val rfl (run_move) ?_) | refine WL.no rfl rfl rfl (.inl rfl) ?_ | refine WL.no rfl rfl rfl (.inr rfl) ?_
          first | (refine WL.yes rfl rfl rfl ?_; refine WL.val rfl (run_move) ?_) | refine WL.no rfl rfl rfl (.inl rfl) ?_ | refine WL.no rfl rfl rfl (.inr rfl) ?_
          first | (refine WL.yes rfl rfl rfl ?_; refine WL.val rfl (run_move) ?_) | refine WL.no rfl rfl rfl (.inl rfl) ?_ | refine WL.no rfl rfl rfl (.inr rfl) ?_
          first | refine WL.no rfl rfl rfl (.inl rfl) ?_ | refine WL.no rfl rfl rfl (.inr rfl) ?_
          first | (refine WL.yes rfl rfl rfl ?_; (first | refine WL.val rfl (run_notB rfl) ?_ | refine WL.val rfl (run_not rfl) ?_)) | refine WL.no rfl rfl rfl (.inl rfl) ?_ | refine WL.no rfl rfl rfl (.inr rfl) ?_
          first | (refine WL.yes rfl rfl rfl ?_; (first | refine WL.val rfl (run_pickT rfl) ?_ | refine WL.val rfl (run_pickF rfl) ?_)) | refine WL.no rfl rfl rfl (.inl rfl) ?_ | refine WL.no rfl rfl rfl (.inr rfl) ?_
          first | refine WL.val rfl (run_pickT rfl) ?_ | refine WL.val rfl (run_pickF rfl) ?_
          refine WL.val rfl (run_move) ?_
          first | (refine WL.yes rfl rfl rfl ?_; refine WL.val rfl (run_move) ?_) | refine WL.no rfl rfl rfl (.inl rfl) ?_ | refine WL.no rfl rfl rfl (.inr rfl) ?_
          first | (refine WL.yes rfl rfl rfl ?_; (first | refine WL.val rfl (run_notB rfl) ?_ | refine WL.val rfl (run_not rfl) ?_)) | refine WL.no rfl rfl rfl (.inl rfl) ?_ | refine WL.no rfl rfl rfl (.inr rfl) ?_
          first | (refine WL.yes rfl rfl rfl ?_; refine WL.val rfl (run_move) ?_) | refine WL.no rfl rfl rfl (.inl rfl) ?_ | refine WL.no rfl rfl rfl (.inr rfl) ?_
          first | (refine WL.yes rfl rfl rfl ?_; refine WL.val rfl (run_move) ?_) | refine WL.no rfl rfl rfl (.inl rfl) ?_ | refine WL.no rfl rfl rfl (.inr rfl) ?_
          first | (refine WL.yes rfl rfl rfl ?_; refine WL.val rfl (run_move) ?_) | refine WL.no rfl rfl rfl (.inl rfl) ?_ | refine WL.no rfl rfl rfl (.inr rfl) ?_
          refine WL.yes rfl rfl rfl ?_
          refine WL.val rfl (run_bE (run_eqlB Tryd.underlying4 rfl rfl) (show _ = false from rfl)) ?_
          first | (refine WL.yes rfl rfl rfl ?_; (first | refine WL.val rfl (run_pickT rfl) ?_ | refine WL.val rfl (run_pickF rfl) ?_)) | refine WL.no rfl rfl rfl (.inl rfl) ?_ | refine WL.no rfl rfl rfl (.inr rfl) ?_
          first | refine WL.val rfl (run_pickT rfl) ?_ | refine WL.val rfl (run_pickF rfl) ?_
          refine WL.nil ?_
          repeat (first | refine CW.seq ?_ | refine CW.block ?_ | refine CW.skip ?_ | refine CW.label ?_ | refine CW.exit ?_ | refine CW.condT rfl ?_ | refine CW.condF rfl ?_)
          refine CW.reg ?_
          refine WL.val rfl (run_move) ?_
          refine WL.val rfl (run_move) ?_
          first | (refine WL.yes rfl rfl rfl ?_; refine WL.val rfl (run_move) ?_) | refine WL.no rfl rfl rfl (.inl rfl) ?_ | refine WL.no rfl rfl rfl (.inr rfl) ?_
          first | (refine WL.yes rfl rfl rfl ?_; refine WL.val rfl (run_move) ?_) | refine WL.no rfl rfl rfl (.inl rfl) ?_ | refine WL.no rfl rfl rfl (.inr rfl) ?_
          refine WL.yes rfl rfl rfl ?_
          refine WL.enter rfl (run_call en24 rfl rfl) (cLbc _ (hg.step hs)) ?_
          rintro e w ⟨rfl, hq⟩
          refine ⟨_, rfl, ?_⟩
          replace hs := hs.callE hq
          first | refine WL.val rfl (run_pickT rfl) ?_ | refine WL.val rfl (run_pickF rfl) ?_
          refine WL.val rfl (run_move) ?_
          first | (refine WL.yes rfl rfl rfl ?_; refine WL.val rfl (run_move) ?_) | refine WL.no rfl rfl rfl (.inl rfl) ?_ | refine WL.no rfl rfl rfl (.inr rfl) ?_
          first | (refine WL.yes rfl rfl rfl ?_; refine WL.val rfl (run_move) ?_) | refine WL.no rfl rfl rfl (.inl rfl) ?_ | refine WL.no rfl rfl rfl (.inr rfl) ?_
          refine WL.yes rfl rfl rfl ?_
          refine WL.enter rfl (run_call en24 rfl rfl) (cLac _ (hg.step hs)) ?_
          rintro e w ⟨rfl, hq⟩
          refine ⟨_, rfl, ?_⟩
          replace hs := hs.callE hq
          first | (refine WL.yes rfl rfl rfl ?_; (first | refine WL.val rfl (run_notB rfl) ?_ | refine WL.val rfl (run_not rfl) ?_)) | refine WL.no rfl rfl rfl (.inl rfl) ?_ | refine WL.no rfl rfl rfl (.inr rfl) ?_
          first | refine WL.val rfl (run_pickT rfl) ?_ | refine WL.val rfl (run_pickF rfl) ?_
          refine WL.nil ?_
          repeat (first | refine CW.seq ?_ | refine CW.block ?_ | refine CW.skip ?_ | refine CW.label ?_ | refine CW.exit ?_ | refine CW.condT rfl ?_ | refine CW.condF rfl ?_)
          refine CW.reg ?_
          refine WL.val rfl (run_move) ?_
          refine WL.val rfl (run_move) ?_
          refine WL.enter rfl (run_call en26 rfl rfl) (cUab _ (hg.step hs)) ?_
          rintro e w ⟨rfl, hq⟩
          refine ⟨_, rfl, ?_⟩
          replace hs := hs.callE hq
          refine WL.val rfl (run_move) ?_
          first | (refine WL.yes rfl rfl rfl ?_; refine WL.val rfl (run_move) ?_) | refine WL.no rfl rfl rfl (.inl rfl) ?_ | refine WL.no rfl rfl rfl (.inr rfl) ?_
          first | (refine WL.yes rfl rfl rfl ?_; (first | refine WL.val rfl (run_notB rfl) ?_ | refine WL.val rfl (run_not rfl) ?_)) | refine WL.no rfl rfl rfl (.inl rfl) ?_ | refine WL.no rfl rfl rfl (.inr rfl) ?_
          first | refine WL.val rfl (run_pickT rfl) ?_ | refine WL.val rfl (run_pickF rfl) ?_
          refine WL.val rfl (run_move) ?_
          first | (refine WL.yes rfl rfl rfl ?_; refine WL.val rfl (run_move) ?_) | refine WL.no rfl rfl rfl (.inl rfl) ?_ | refine WL.no rfl rfl rfl (.inr rfl) ?_
          first | (refine WL.yes rfl rfl rfl ?_; (first | refine WL.val rfl (run_notB rfl) ?_ | refine WL.val rfl (run_not rfl) ?_)) | refine WL.no rfl rfl rfl (.inl rfl) ?_ | refine WL.no rfl rfl rfl (.inr rfl) ?_
          first | refine WL.val rfl (run_pickT rfl) ?_ | refine WL.val rfl (run_pickF rfl) ?_
          refine WL.nil ?_
          repeat (first | refine CW.seq ?_ | refine CW.block ?_ | refine CW.skip ?_ | refine CW.label ?_ | refine CW.exit ?_ | refine CW.condT rfl ?_ | refine CW.condF rfl ?_)
          refine CW.reg ?_
          refine WL.val rfl (run_move) ?_
          refine WL.val rfl (run_move) ?_
          refine WL.enter rfl (run_call en26 rfl rfl) (cUac _ (hg.step hs)) ?_
          rintro e w ⟨rfl, hq⟩
          refine ⟨_, rfl, ?_⟩
          replace hs := hs.callE hq
          first | refine WL.val rfl (run_notB rfl) ?_ | refine WL.val rfl (run_not rfl) ?_
          refine WL.val rfl (run_move) ?_
          first | (refine WL.yes rfl rfl rfl ?_; refine WL.val rfl (run_move) ?_) | refine WL.no rfl rfl rfl (.inl rfl) ?_ | refine WL.no rfl rfl rfl (.inr rfl) ?_
          first | (refine WL.yes rfl rfl rfl ?_; (first | refine WL.val rfl (run_notB rfl) ?_ | refine WL.val rfl (run_not rfl) ?_)) | refine WL.no rfl rfl rfl (.inl rfl) ?_ | refine WL.no rfl rfl rfl (.inr rfl) ?_
          first | refine WL.val rfl (run_pickT rfl) ?_ | refine WL.val rfl (run_pickF rfl) ?_
          refine WL.val rfl (run_move) ?_
          first | (refine WL.yes rfl rfl rfl ?_; refine WL.val rfl (run_move) ?_) | refine WL.no rfl rfl rfl (.inl rfl) ?_ | refine WL.no rfl rfl rfl (.inr rfl) ?_
          first | (refine WL.yes rfl rfl rfl ?_; refine WL.val rfl (run_move) ?_) | refine WL.no rfl rfl rfl (.inl rfl) ?_ | refine WL.no rfl rfl rfl (.inr rfl) ?_
          refine WL.yes rfl rfl rfl ?_
          refine WL.enter rfl (run_call en24 rfl rfl) (cLbc _ (hg.step hs)) ?_
          rintro e w ⟨rfl, hq⟩
          refine ⟨_, rfl, ?_⟩
          replace hs := hs.callE hq
          first | (refine WL.yes rfl rfl rfl ?_; (first | refine WL.val rfl (run_notB rfl) ?_ | refine WL.val rfl (run_not rfl) ?_)) | refine WL.no rfl rfl rfl (.inl rfl) ?_ | refine WL.no rfl rfl rfl (.inr rfl) ?_
          first | refine WL.val rfl (run_pickT rfl) ?_ | refine WL.val rfl (run_pickF rfl) ?_
          refine WL.val rfl (run_move) ?_
          first | (refine WL.yes rfl rfl rfl ?_; refine WL.val rfl (run_move) ?_) | refine WL.no rfl rfl rfl (.inl rfl) ?_ | refine WL.no rfl rfl rfl (.inr rfl) ?_
          first | (refine WL.yes rfl rfl rfl ?_; refine WL.val rfl (run_move) ?_) | refine WL.no rfl rfl rfl (.inl rfl) ?_ | refine WL.no rfl rfl rfl (.inr rfl) ?_
          refine WL.yes rfl rfl rfl ?_
          refine WL.enter rfl (run_call en26 rfl rfl) (cUab _ (hg.step hs)) ?_
          rintro e w ⟨rfl, hq⟩
          refine ⟨_, rfl, ?_⟩
          replace hs := hs.callE hq
          first | refine WL.val rfl (run_pickT rfl) ?_ | refine WL.val rfl (run_pickF rfl) ?_
          refine WL.val rfl (run_assign) ?_
          refine WL.nil ?_
          repeat (first | refine CW.seq ?_ | refine CW.block ?_ | refine CW.skip ?_ | refine CW.label ?_ | refine CW.exit ?_ | refine CW.condT rfl ?_ | refine CW.condF rfl ?_)
          refine CW.ret ?_
          refine fin_ret1 rfl ?_
          exact ⟨rfl, hs⟩
end Go.Gx
