/- How wide a text's first piece is: as the model decodes it. No program in sight. -/
import Derived.Test.YtnoamfcnamlbhaaDoorGoesL
namespace Go.Gx
set_option linter.unusedVariables false
set_option linter.unusedSimpArgs false
def folB (b : Nat) : Bool := decide (128 ≤ b ∧ b ≤ 191)
/-- How many bytes the first byte asks for. -/
def wantN (c : Nat) : Nat := if 194 ≤ c ∧ c ≤ 223 then 2 else if 224 ≤ c ∧ c ≤ 239 then 3 else if 240 ≤ c ∧ c ≤ 244 then 4 else 1
/-- Do the bytes behind it follow? -/
def folN (n : Nat) (b1 b2 b3 : Nat) : Bool := (decide (n < 2) || folB b1) && (decide (n < 3) || folB b2) && (decide (n < 4) || folB b3)
def oddN (c b1 : Nat) : Bool := (decide (c = 224) && decide (b1 < 160)) || (decide (c = 237) && decide (159 < b1)) || (decide (c = 240) && decide (b1 < 144)) || (decide (c = 244) && decide (143 < b1))
def widthL (s : List UInt8) : Nat :=
  if s.length < wantN (bAt s 0) then 1
  else if folN (wantN (bAt s 0)) (bAt s 1) (bAt s 2) (bAt s 3) = false then 1
  else if 2 < wantN (bAt s 0) ∧ oddN (bAt s 0) (bAt s 1) = true then 1
  else wantN (bAt s 0)
theorem bAt_drop (l : List UInt8) (i k : Nat) : bAt (l.drop i) k = bAt l (i + k) := by
  simp [bAt, List.getD_eq_getElem?_getD, List.getElem?_drop]
theorem widthL_pos (s : List UInt8) : 1 ≤ widthL s := by
  unfold widthL wantN
  repeat' split
  all_goals omega
theorem widthL_le {s : List UInt8} (h : s ≠ []) : widthL s ≤ s.length := by
  have := List.length_pos_iff.2 h
  unfold widthL
  repeat' split
  all_goals omega
theorem dec_width {l : List UInt8} {i : Nat} (hi : i < l.length) : (Utf8.decode ⟨⟨l⟩⟩ i).2 = widthL (l.drop i) := by
  have hsz : (ByteArray.mk ⟨l⟩).size = l.length := rfl
  have hb0 : bAt l i < 256 := (l.getD i 0).toNat_lt
  have hb1 : bAt l (i + 1) < 256 := (l.getD (i + 1) 0).toNat_lt
  have hb2 : bAt l (i + 2) < 256 := (l.getD (i + 2) 0).toNat_lt
  have hb3 : bAt l (i + 3) < 256 := (l.getD (i + 3) 0).toNat_lt
  unfold widthL
  simp only [bAt_drop, List.length_drop, Nat.add_zero]
  unfold Utf8.decode
  simp only [get_bAt, hsz, Nat.add_zero, Utf8.runeError, Utf8.valid]
  generalize bAt l i = c at *
  generalize bAt l (i + 1) = b1 at *
  generalize bAt l (i + 2) = b2 at *
  generalize bAt l (i + 3) = b3 at *
  generalize l.length = n at *
  by_cases h0 : c < 128
  · rw [if_pos h0]
    have : wantN c = 1 := by unfold wantN; (repeat' split) <;> omega
    rw [this, if_neg (by omega), if_neg (by simp [folN]), if_neg (by omega)]
  rw [if_neg h0]
  by_cases h2 : 192 ≤ c ∧ c ≤ 223
  · have e1 : (c / 32 == 6) = true := by rw [beq_iff_eq]; omega
    have e2 : (c / 16 == 14) = false := by rw [beq_eq_false_iff_ne]; omega
    have e3 : (c / 8 == 30) = false := by rw [beq_eq_false_iff_ne]; omega
    simp only [e1, e2, e3, Bool.true_and, Bool.false_and, Bool.false_eq_true, if_false]
    by_cases h3 : i + 1 < n ∧ b1 / 64 = 2
    · rw [if_pos (by simp [h3.1, h3.2])]
      have hf : folB b1 = true := by rw [folB, decide_eq_true_eq]; omega
      by_cases h4 : 194 ≤ c
      · have : wantN c = 2 := by unfold wantN; rw [if_pos (by omega)]
        rw [this, if_pos (by omega), if_neg (by omega), if_neg (by simp [folN, hf]), if_neg (by omega)]
      · have : wantN c = 1 := by unfold wantN; (repeat' split) <;> omega
        rw [this, if_neg (by omega), if_neg (by omega), if_neg (by simp [folN]), if_neg (by omega)]
    · rw [if_neg (by simpa using h3)]
      by_cases h4 : 194 ≤ c
      · have : wantN c = 2 := by unfold wantN; rw [if_pos (by omega)]
        rw [this]
        by_cases h5 : n - i < 2
        · rw [if_pos h5]
        · have hf : folB b1 = false := by rw [folB, decide_eq_false_iff_not]; omega
          rw [if_neg h5, if_pos (by simp [folN, hf])]
      · have : wantN c = 1 := by unfold wantN; (repeat' split) <;> omega
        rw [this, if_neg (by omega), if_neg (by simp [folN]), if_neg (by omega)]
  have e1 : (c / 32 == 6) = false := by rw [beq_eq_false_iff_ne]; omega
  simp only [e1, Bool.false_and, Bool.false_eq_true, if_false]
  by_cases h3 : 224 ≤ c ∧ c ≤ 239
  · have e2 : (c / 16 == 14) = true := by rw [beq_iff_eq]; omega
    have e3 : (c / 8 == 30) = false := by rw [beq_eq_false_iff_ne]; omega
    have hw : wantN c = 3 := by unfold wantN; rw [if_neg (by omega), if_pos (by omega)]
    simp only [e2, e3, Bool.true_and, Bool.false_and, Bool.false_eq_true, if_false, hw]
    by_cases h5 : n - i < 3
    · rw [if_pos h5, if_neg]
      simp only [Bool.and_eq_true, decide_eq_true_eq, beq_iff_eq]
      omega
    · rw [if_neg h5]
      by_cases h6 : (128 ≤ b1 ∧ b1 ≤ 191) ∧ (128 ≤ b2 ∧ b2 ≤ 191)
      · rw [if_pos (by simp only [Bool.and_eq_true, decide_eq_true_eq, beq_iff_eq]; omega), ]
        have hff : ¬ folN 3 b1 b2 b3 = false := by simp [folN, folB, h6]
        by_cases h7 : c = 224 ∧ b1 < 160 ∨ c = 237 ∧ 159 < b1
        · have ho : oddN c b1 = true := by simp [oddN]; omega
          rw [if_neg (by simp only [Bool.and_eq_true, Bool.or_eq_true, decide_eq_true_eq]; omega), if_neg hff, if_pos ⟨by omega, ho⟩]
        · have ho : ¬ (2 < 3 ∧ oddN c b1 = true) := by simp [oddN]; omega
          rw [if_pos (by simp only [Bool.and_eq_true, Bool.or_eq_true, decide_eq_true_eq]; omega), if_neg hff, if_neg ho]
      · rw [if_neg (by simp only [Bool.and_eq_true, decide_eq_true_eq, beq_iff_eq]; omega), if_pos (by simp [folN, folB]; omega)]
  have e2 : (c / 16 == 14) = false := by rw [beq_eq_false_iff_ne]; omega
  simp only [e2, Bool.false_and, Bool.false_eq_true, if_false]
  by_cases h4 : 240 ≤ c ∧ c ≤ 247
  · have e3 : (c / 8 == 30) = true := by rw [beq_iff_eq]; omega
    simp only [e3, Bool.true_and]
    by_cases h8 : c ≤ 244
    · have hw : wantN c = 4 := by unfold wantN; rw [if_neg (by omega), if_neg (by omega), if_pos (by omega)]
      simp only [hw]
      by_cases h5 : n - i < 4
      · rw [if_pos h5, if_neg]
        simp only [Bool.and_eq_true, decide_eq_true_eq, beq_iff_eq]
        omega
      · rw [if_neg h5]
        by_cases h6 : (128 ≤ b1 ∧ b1 ≤ 191) ∧ (128 ≤ b2 ∧ b2 ≤ 191) ∧ (128 ≤ b3 ∧ b3 ≤ 191)
        · rw [if_pos (by simp only [Bool.and_eq_true, decide_eq_true_eq, beq_iff_eq]; omega), ]
          have hff : ¬ folN 4 b1 b2 b3 = false := by simp [folN, folB, h6]
          by_cases h7 : c = 240 ∧ b1 < 144 ∨ c = 244 ∧ 143 < b1
          · have ho : oddN c b1 = true := by simp [oddN]; omega
            rw [if_neg (by simp only [Bool.and_eq_true, Bool.or_eq_true, decide_eq_true_eq]; omega), if_neg hff, if_pos ⟨by omega, ho⟩]
          · have ho : ¬ (2 < 4 ∧ oddN c b1 = true) := by simp [oddN]; omega
            rw [if_pos (by simp only [Bool.and_eq_true, Bool.or_eq_true, decide_eq_true_eq]; omega), if_neg hff, if_neg ho]
        · rw [if_neg (by simp only [Bool.and_eq_true, decide_eq_true_eq, beq_iff_eq]; omega), if_pos (by simp [folN, folB]; omega)]
    · have hw : wantN c = 1 := by unfold wantN; (repeat' split) <;> omega
      rw [hw]
      have e9 : (if n - i < 1 then 1 else if folN 1 b1 b2 b3 = false then 1 else if 2 < 1 ∧ oddN c b1 = true then 1 else 1) = 1 := by
        (repeat' split) <;> rfl
      rw [e9]
      split
      · split
        · rename_i h9
          simp only [Bool.and_eq_true, Bool.or_eq_true, decide_eq_true_eq] at h9
          omega
        · rfl
      · rfl
  · have e3 : (c / 8 == 30) = false := by rw [beq_eq_false_iff_ne]; omega
    have hw : wantN c = 1 := by unfold wantN; (repeat' split) <;> omega
    simp only [e3, Bool.false_and, Bool.false_eq_true, if_false]
    rw [hw, if_neg (by omega), if_neg (by simp [folN]), if_neg (by omega)]

/-- A text's runes, as the bytes that they have there. -/
def piecesL (s : List UInt8) : List (List UInt8) := if h : s = [] then [] else s.take (widthL s) :: piecesL (s.drop (widthL s))
termination_by s.length
decreasing_by
  have := List.length_pos_iff.2 h
  have := widthL_pos s
  simp only [List.length_drop]
  omega
theorem piecesL_nil : piecesL [] = [] := by rw [piecesL, dif_pos rfl]
theorem piecesL_some {s : List UInt8} (h : s ≠ []) : piecesL s = s.take (widthL s) :: piecesL (s.drop (widthL s)) := by rw [piecesL, dif_neg h]
end Go.Gx
