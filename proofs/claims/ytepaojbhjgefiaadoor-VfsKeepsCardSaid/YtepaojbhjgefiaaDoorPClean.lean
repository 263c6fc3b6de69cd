/- Clean: the program's and the document's. -/
import Derived.Test.YtepaojbhjgefiaaDoorPParts
import Derived.Lib.Join
import Derived.Below
namespace Go.Gx
open Go.Proofs Go.RowKit
set_option linter.unusedVariables false
set_option linter.unusedSimpArgs false
set_option maxRecDepth 100000

section
variable {P : Program} {f : Slots} {w : World} {d : Option Tmp} {ty : TypeId} {pos : String} {af : Array Edge} {x y z : Operand} {T T' : TypeId} {s t : List UInt8}
theorem run_strAdd (hx : ev f x = str s) (hy : ev f y = str t) (hl : s.length + t.length ≤ 9223372036854775807) : (execOp (ev f) ⟨d, .binOp .add T x y T', ty, pos, af, none⟩).run P w = .ok (.value (str (s ++ t))) w := by
  have h : ¬ (9223372036854775807 < (s.length : Int) + (t.length : Int)) := by omega
  have e : ByteArray.mk ⟨s⟩ ++ ByteArray.mk ⟨t⟩ = ⟨⟨s ++ t⟩⟩ := by
    apply ByteArray.ext
    simp
  simp [execOp, hx, hy, str, go_sem, binOp, Op.stringOp, h, e]
end
theorem Step.ofBelow {w w' : World} (h : Below w.heap.size w w') : Step [] [] w w' := by
  obtain ⟨h1, h2, h3, h4, h5⟩ := h
  exact ⟨⟨h1, h2, h3, h4, fun k hk _ => h5 k hk, Nat.le_refl _⟩, by simp, by simp, by simp⟩
theorem strs_append (a b : List (List UInt8)) : strs (a ++ b) = strs a ++ strs b := by simp [strs]

def joinL (l : List (List UInt8)) : List UInt8 := [47].intercalate l
def cleanGo : List (List UInt8) → List (List UInt8) → Except Int (List (List UInt8))
  | [], row => .ok row
  | p :: ps, row =>
    if p = [] ∨ p = [46] then cleanGo ps row
    else if p = [46, 46] then (if row = [] then .error 32 else cleanGo ps row.dropLast)
    else if isName p = false then .error 31 else cleanGo ps (row ++ [p])
def cleanR (s : List UInt8) : Except Int (List UInt8) :=
  if 4096 < s.length then .error 2 else match cleanGo (partsL s) [] with
    | .error e => .error e
    | .ok row => if 32 < row.length then .error 33 else .ok (joinL row)
def cleanS (s : List UInt8) : List UInt8 := match cleanR s with | .ok p => p | .error _ => []
def cleanE (s : List UInt8) : Int := match cleanR s with | .ok _ => 0 | .error e => e
theorem clean_err {s : List UInt8} {e : Int} (h : cleanR s = .error e) : cleanS s = [] ∧ cleanE s = e := by unfold cleanS cleanE; rw [h]; exact ⟨rfl, rfl⟩
theorem clean_ok {s p : List UInt8} (h : cleanR s = .ok p) : cleanS s = p ∧ cleanE s = 0 := by unfold cleanS cleanE; rw [h]; exact ⟨rfl, rfl⟩

theorem join_len : ∀ l : List (List UInt8), (joinL l).length ≤ (l.map fun x => x.length + 1).sum
  | [] => by simp [joinL, List.intercalate]
  | [x] => by simp [joinL, List.intercalate]
  | x :: y :: l => by
    have ih := join_len (y :: l)
    have e : joinL (x :: y :: l) = x ++ 47 :: joinL (y :: l) := by simp [joinL, List.intercalate, List.intersperse]
    rw [e]
    simp only [List.length_append, List.length_cons, List.map_cons, List.sum_cons] at *
    omega

/-- One part less. -/
theorem OwnSl.cut1 {E k : Nat} {b cap : Nat} {row : List (List UInt8)} {Lv : List (Nat × Obj)} (h : OwnSl E 1 (.slice (some ⟨b, 0, none⟩) k cap) k (strs row) Lv) (hk : 0 < k) : OwnSl E 1 (.slice (some ⟨b, 0, none⟩) (k - 1) cap) row.dropLast.length (strs row.dropLast) Lv := by
  have hsm := h.some1 hk
  obtain ⟨b', cap', more, h1, h2, h3⟩ := hsm
  cases h1
  have hl := h.1
  rw [strs_len, Nat.mul_one] at hl
  have hne : row ≠ [] := fun e => by rw [e] at hl; simp at hl; omega
  have e : strs row = strs row.dropLast ++ [str (row.getLast hne)] := by
    have := strs_append row.dropLast [row.getLast hne]
    rw [List.dropLast_concat_getLast] at this
    exact this
  have hdl : row.dropLast.length = k - 1 := by rw [List.length_dropLast, hl]
  refine ⟨by rw [strs_len, Nat.mul_one], .inr ⟨b, cap, [str (row.getLast hne)] ++ more, by rw [hdl], by rw [h2, e, List.append_assoc], ?_⟩⟩
  rw [← List.append_assoc, ← e]
  exact h3

theorem join_spec {u : Value} {row : List (List UInt8)} {Lu : List (Nat × Obj)} (w0 : World) (hu : OwnSl 9 1 u row.length (strs row) Lu) (hs : Step (Lu.map (·.1)) Lu w0 w0) (hl : row.length ≤ 1000000) (hj : (joinL row).length ≤ 1000000) : Calls Tryd.prog 52 #[u, str [47]] w0 (Ret0 (str (joinL row)) w0) := by
  obtain ⟨hlen, ⟨rfl, h0, rfl⟩ | ⟨b, cap, more, rfl, rfl, hcap⟩⟩ := hu
  · obtain rfl : row = [] := List.eq_nil_of_length_eq_zero h0
    refine (Tryd.strings_Join_none none 0 slashB w0).mono fun e w' ⟨h1, h2⟩ => ?_
    subst h2
    exact ⟨h1, Step.refl _⟩
  · have hb := hs.hd
    have hm : (row.map fun l => ByteArray.mk ⟨l⟩).length = row.length := by simp
    have hmm : ((row.map fun l => ByteArray.mk ⟨l⟩).map (·.data.toList)) = row := by
      rw [List.map_map]
      exact (List.map_congr_left (g := id) fun l _ => rfl).trans (List.map_id row)
    have hcl : row.length ≤ cap := by
      rw [List.length_append, strs_len] at hcap
      omega
    have h := Tryd.strings_Join b 0 cap (row.map fun l => ByteArray.mk ⟨l⟩) slashB w0 (fun j x hx => by
      rw [cell_blk hb, Nat.zero_add]
      have hjl : j < row.length := by
        have := (List.getElem?_eq_some_iff.1 hx).1
        simpa using this
      rw [List.getElem?_append_left (by rw [strs_len]; exact hjl)]
      simp only [List.getElem?_map] at hx
      simp only [strs, List.getElem?_map]
      cases hr : row[j]? with
      | none => rw [hr] at hx; cases hx
      | some l =>
        rw [hr] at hx
        obtain rfl : ByteArray.mk ⟨l⟩ = x := by simpa using hx
        rfl) (lt_of_get hb) (by rw [hm]; omega) (by rw [hm]; exact hcl) (by rw [hmm]; show (joinL row).length ≤ _; omega)
    rw [hm, hmm] at h
    exact h.mono fun e w' ⟨h1, h2⟩ => ⟨h1, Step.ofBelow h2⟩
end Go.Gx
