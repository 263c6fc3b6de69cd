/- Items as rows that are sorted: in plain words. -/
import Derived.Test.YtepaojbhjgefiaaGreatDoorC7
import Derived.Test.YtepaojbhjgefiaaGreatDoorSort
import Derived.Shelf.SlSortCmp.NoneTotal
import Derived.Test.YtepaojbhjgefiaaGreatDoorC1
set_option linter.unusedVariables false
set_option linter.unusedSimpArgs false
namespace Go.Gx
open Go.Proofs
set_option maxRecDepth 100000
structure RowI where
 p : List UInt8
 d : Bool
 v : Value
 x : List UInt8
 Lv : List (Nat × Obj)
 hv : v.oneCell' = true
 hp : p.length ≤ 4096
instance : Inhabited RowI := ⟨⟨[], false, .slice none 0 0, [], [], rfl, by simp⟩⟩
def RowI.enc (r : RowI) : List Value := itC r.p r.d r.v
def RowI.cf (a b : RowI) : Int := if lessP a.p b.p then -1 else 1
theorem RowI.enc_len (r : RowI) : r.enc.length = 3 := rfl
theorem RowI.enc1 (r : RowI) : Cells1 r.enc := by
 intro v hv
 simp only [RowI.enc, itC, List.mem_cons, List.not_mem_nil, or_false] at hv
 rcases hv with rfl | rfl | rfl
 ·rfl
 ·rfl
 ·exact r.hv
def rowsI (R : List RowI) : List Value := (R.map RowI.enc).flatten
theorem rowsI_len (R : List RowI) : (rowsI R).length = R.length * 3 := by
 induction R with
 | nil => rfl
 | cons r R ih => rw [rowsI, List.map_cons, List.flatten_cons, List.length_append, RowI.enc_len, List.length_cons]; rw [rowsI] at ih; omega
theorem rowsI_snoc (R : List RowI) (r : RowI) : rowsI (R ++ [r]) = rowsI R ++ r.enc := by simp [rowsI]
theorem rowsI_at : ∀ (R : List RowI) (i j : Nat) (h : i < R.length), j < 3 → (rowsI R)[i * 3 + j]? = (R[i].enc)[j]?
 | r :: R, 0, j, _, hj => by
  rw [rowsI, List.map_cons, List.flatten_cons, Nat.zero_mul, Nat.zero_add, List.getElem?_append_left (by rw [RowI.enc_len]; exact hj)]
  rfl
 | r :: R, i + 1, j, h, hj => by
  rw [rowsI, List.map_cons, List.flatten_cons, List.getElem?_append_right (by rw [RowI.enc_len]; omega), RowI.enc_len, show (i + 1) * 3 + j - 3 = i * 3 + j by omega]
  exact rowsI_at R i j (by simpa using h) hj
theorem RowI.cf_lt (a b : RowI) : ltOf RowI.cf a b = lessP a.p b.p := by
 unfold ltOf RowI.cf
 cases lessP a.p b.p <;> rfl
theorem RowI.swo : Sort.SWO (ltOf RowI.cf) where
 irrefl x := by rw [RowI.cf_lt]; exact lessP_irrefl _
 trans x y z h1 h2 := by rw [RowI.cf_lt] at *; exact lessP_trans h1 h2
 ntrans x y z h1 h2 := by
  rw [RowI.cf_lt] at *
  cases h : lessP x.p z.p with
  | false => rfl
  | true =>
   cases h3 : lessP y.p x.p with
   | true => rw [lessP_trans h3 h] at h2; cases h2
   | false =>
    by_cases he : x.p = y.p
    ·rw [he, h2] at h; cases h
    ·rw [lessP_tri he h1] at h3; cases h3
end Go.Gx
