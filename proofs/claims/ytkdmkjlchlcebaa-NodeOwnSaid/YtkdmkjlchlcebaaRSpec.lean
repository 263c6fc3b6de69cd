/- Plain words for reading: numbers, bytes. No program in sight. -/
import Derived.Test.YtkdmkjlchlcebaaMSpec
import Derived.Test.YtkdmkjlchlcebaaPan
namespace Go.Gx
set_option linter.unusedVariables false
set_option linter.unusedSimpArgs false

def beVal (l : List UInt8) : Nat := l.foldl (fun u c => u * 256 + c.toNat) 0
def numberP (bs : List UInt8) (p : Nat) : Except Int (Nat × Nat) :=
  if bs.length ≤ p then .error 11
  else if (bs.getD p 0).toNat < 248 then .ok ((bs.getD p 0).toNat, p + 1)
  else if bs.length < p + 1 + ((bs.getD p 0).toNat - 247) then .error 11
  else if bs.getD (p + 1) 0 = 0 ∨ beVal ((bs.drop (p + 1)).take ((bs.getD p 0).toNat - 247)) < 248 then .error 12
  else .ok (beVal ((bs.drop (p + 1)).take ((bs.getD p 0).toNat - 247)), p + 1 + ((bs.getD p 0).toNat - 247))
def numP (bs : List UInt8) (p : Nat) : Except Int (Nat × Nat) :=
  match numberP bs p with
  | .error e => .error e
  | .ok (u, q) => if 9223372036854775808 ≤ u then .error 12 else .ok (u, q)
def bytesP (bs : List UInt8) (p : Nat) : Except Int (List UInt8 × Nat) :=
  match numP bs p with
  | .error e => .error e
  | .ok (n, q) => if bs.length < q + n then .error 11 else .ok ((bs.drop q).take n, q + n)
def mostP (m : Nat) (bs : List UInt8) (p : Nat) : Except Int (Nat × Nat) :=
  match numP bs p with
  | .error e => .error e
  | .ok (n, q) => if m < n then .error 2 else .ok (n, q)

theorem beVal_append (l : List UInt8) (c : UInt8) : beVal (l ++ [c]) = beVal l * 256 + c.toNat := by simp [beVal]
theorem beVal_lt (l : List UInt8) : beVal l < 256 ^ l.length := by
  have : ∀ n (l : List UInt8), l.length = n → beVal l < 256 ^ n := by
    intro n
    induction n with
    | zero => intro l hl; rw [List.eq_nil_of_length_eq_zero hl]; decide
    | succ n ih =>
      intro l hl
      have hne : l ≠ [] := fun e => by rw [e] at hl; cases hl
      rw [← List.dropLast_concat_getLast hne, beVal_append]
      have h1 := ih l.dropLast (by rw [List.length_dropLast]; omega)
      have h2 := (l.getLast hne).toNat_lt
      rw [Nat.pow_succ]
      omega
  exact this _ l rfl
theorem numberP_ok {bs : List UInt8} {p u q : Nat} (h : numberP bs p = .ok (u, q)) : q ≤ bs.length ∧ p < q ∧ u < 18446744073709551616 := by
  unfold numberP at h
  have hc := (bs.getD p 0).toNat_lt
  split at h
  · cases h
  split at h
  · injection h with h; injection h with h1 h2; omega
  split at h
  · cases h
  split at h
  · cases h
  · injection h with h; injection h with h1 h2
    have h3 := beVal_lt ((bs.drop (p + 1)).take ((bs.getD p 0).toNat - 247))
    have h4 : ((bs.drop (p + 1)).take ((bs.getD p 0).toNat - 247)).length ≤ 8 := by rw [List.length_take]; exact Nat.le_trans (Nat.min_le_left _ _) (by omega)
    have h5 : 256 ^ ((bs.drop (p + 1)).take ((bs.getD p 0).toNat - 247)).length ≤ 256 ^ 8 := Nat.pow_le_pow_right (by decide) h4
    have h6 : (256 : Nat) ^ 8 = 18446744073709551616 := by decide
    omega
theorem numP_ok {bs : List UInt8} {p u q : Nat} (h : numP bs p = .ok (u, q)) : q ≤ bs.length ∧ p < q ∧ u < 9223372036854775808 := by
  unfold numP at h
  split at h
  · cases h
  · rename_i h1
    have := numberP_ok h1
    split at h
    · cases h
    · injection h with h; injection h with h2 h3; omega
theorem bytesP_ok {bs s : List UInt8} {p q : Nat} (h : bytesP bs p = .ok (s, q)) : q ≤ bs.length ∧ p < q := by
  unfold bytesP at h
  split at h
  · cases h
  · rename_i h1
    have := numP_ok h1
    split at h
    · cases h
    · injection h with h; injection h with h2 h3; omega
theorem mostP_ok {bs : List UInt8} {m p u q : Nat} (h : mostP m bs p = .ok (u, q)) : q ≤ bs.length ∧ p < q ∧ u ≤ m := by
  unfold mostP at h
  split at h
  · cases h
  · rename_i h1
    have := numP_ok h1
    split at h
    · cases h
    · injection h with h; injection h with h2 h3; omega
def errs : List Int := [2, 11, 12]
theorem numberP_err {bs : List UInt8} {p : Nat} {e : Int} (h : numberP bs p = .error e) : e = 11 ∨ e = 12 := by
  unfold numberP at h
  split at h
  · injection h with h; exact .inl h.symm
  split at h
  · cases h
  split at h
  · injection h with h; exact .inl h.symm
  split at h
  · injection h with h; exact .inr h.symm
  · cases h
theorem numP_err {bs : List UInt8} {p : Nat} {e : Int} (h : numP bs p = .error e) : e = 11 ∨ e = 12 := by
  unfold numP at h
  split at h
  · rename_i h1; injection h with h; subst h; exact numberP_err h1
  · split at h
    · injection h with h; exact .inr h.symm
    · cases h
end Go.Gx
