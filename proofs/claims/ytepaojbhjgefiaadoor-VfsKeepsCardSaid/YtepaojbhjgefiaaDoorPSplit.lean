/- Plain words for paths: the parts of a text; what the library's Split tells. No program in sight. -/
import Derived.Test.YtepaojbhjgefiaaDoorPName
import Derived.Lib.Split
import Derived.Lib.SplitLaws
import Derived.Lib.CountLaws
import Derived.Lib.IndexBytes
import Derived.Lib.IndexLaws
namespace Go.Gx
set_option linter.unusedVariables false
set_option linter.unusedSimpArgs false

/-- A text parted at each slash. -/
def splitL : List UInt8 → List (List UInt8)
  | [] => [[]]
  | c :: s => if c = 47 then [] :: splitL s else match splitL s with
    | [] => [[c]]
    | p :: ps => (c :: p) :: ps
/-- A text's parts: of the empty one there are none. -/
def partsL (s : List UInt8) : List (List UInt8) := if s = [] then [] else splitL s

theorem splitL_ne : ∀ s, splitL s ≠ []
  | [] => by simp [splitL]
  | c :: s => by
    rw [splitL]
    split
    · simp
    · split <;> simp
theorem splitL_none : ∀ {s : List UInt8}, 47 ∉ s → splitL s = [s]
  | [], _ => rfl
  | c :: s, h => by
    simp only [List.mem_cons, not_or] at h
    rw [splitL, if_neg (fun e => h.1 e.symm), splitL_none h.2]
theorem splitL_hit {b : List UInt8} : ∀ {a : List UInt8}, 47 ∉ a → splitL (a ++ 47 :: b) = a :: splitL b
  | [], _ => by simp [splitL]
  | c :: a, h => by
    simp only [List.mem_cons, not_or] at h
    rw [List.cons_append, splitL, if_neg (fun e => h.1 e.symm), splitL_hit h.2]

def slashB : ByteArray := ⟨#[47]⟩
theorem ext_take (s : List UInt8) (i : Nat) : (ByteArray.mk ⟨s⟩).extract 0 i = ⟨⟨s.take i⟩⟩ := by
  apply ByteArray.ext
  rw [ByteArray.data_extract]
  simp
theorem ext_drop (s : List UInt8) (i : Nat) : (ByteArray.mk ⟨s⟩).extract i (ByteArray.mk ⟨s⟩).size = ⟨⟨s.drop i⟩⟩ := by
  apply ByteArray.ext
  rw [ByteArray.data_extract]
  have : (ByteArray.mk ⟨s⟩).size = s.length := rfl
  rw [this]
  apply Array.ext'
  simp [List.take_of_length_le]

open Go.Lib in
theorem split_eq : ∀ (n : Nat) (s : List UInt8), s.length ≤ n → splitB slashB 0 (countB ⟨⟨s⟩⟩ slashB) ⟨⟨s⟩⟩ = (splitL s).map (fun l => ByteArray.mk ⟨l⟩) ∧ countB ⟨⟨s⟩⟩ slashB + 1 = (splitL s).length
  | n, s, hn => by
    have hone : indexB ⟨⟨s⟩⟩ slashB = indexByte s 47 := Go.Lib.one ⟨⟨s⟩⟩ slashB rfl
    rcases indexB_cases ⟨⟨s⟩⟩ slashB with h | ⟨i, h, hi⟩
    · have hno : 47 ∉ s := fun hm => by
        have hobt := List.mem_iff_getElem.1 hm
        obtain ⟨k, hk, he⟩ := hobt
        rw [h] at hone
        exact indexByte_none hone.symm k (by rw [List.getElem?_eq_getElem hk, he])
      rw [countB_miss _ _ h, splitB_miss _ _ _ _ h, splitL_none hno]
      exact ⟨rfl, rfl⟩
    · have hs := indexByte_some (hone.symm.trans h)
      have hlt : i < s.length := (List.getElem?_eq_some_iff.1 hs.1).1
      have hgi : s[i] = 47 := (List.getElem?_eq_some_iff.1 hs.1).2
      have hna : 47 ∉ s.take i := fun hm => by
        have hobt := List.mem_iff_getElem.1 hm
        obtain ⟨k, hk, he⟩ := hobt
        rw [List.length_take] at hk
        rw [List.getElem_take] at he
        exact hs.2 k (by omega) (by rw [List.getElem?_eq_getElem (by omega), he])
      have e : s = s.take i ++ 47 :: s.drop (i + 1) := by
        rw [← hgi, ← List.drop_eq_getElem_cons hlt, List.take_append_drop]
      have hsz : slashB.size = 1 := rfl
      have hc := countB_hit ⟨⟨s⟩⟩ slashB i (by rw [hsz]; exact Nat.le_refl 1) h
      rw [hsz, ext_drop] at hc
      have ih := split_eq (n - 1) (s.drop (i + 1)) (by rw [List.length_drop]; omega)
      have hsl : splitL s = s.take i :: splitL (s.drop (i + 1)) := by
        conv => lhs; rw [e]
        exact splitL_hit hna
      rw [hc, Nat.add_comm 1, splitB_hit _ _ _ _ i h, hsz, ext_drop, Nat.add_zero, ext_take, ih.1, hsl]
      refine ⟨rfl, ?_⟩
      rw [List.length_cons, ih.2]
  termination_by n s => s.length
  decreasing_by
    simp only [List.length_drop]
    omega
end Go.Gx
