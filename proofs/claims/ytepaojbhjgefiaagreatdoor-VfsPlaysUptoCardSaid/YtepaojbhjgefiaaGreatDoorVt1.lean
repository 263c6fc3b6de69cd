/- Trees checked: in plain words; path.Less out of the second chain. No program in sight but Less. -/
import Derived.Test.YtepaojbhjgefiaaGreatDoorC5
import Derived.Test.YtepaojbhjgefiaaGreatDoorYLess
import Derived.Test.YtepaojbhjgefiaaGreatDoorC1
set_option linter.unusedVariables false
set_option linter.unusedSimpArgs false
namespace Go.Gx
open Go.Proofs
set_option maxRecDepth 100000
theorem gx_of {w w' : World} (h : Gy.Step [] [] w w') : Step [] [] w w' :=
 ⟨⟨h.chg.os, h.chg.tape, h.chg.output, h.chg.size, h.chg.block, (Nat.le_refl 0 : (0 : Nat) ≤ 0)⟩, by simp, by simp, by simp⟩
def lessP (s t : List UInt8) : Bool := decide (cmpF (partsL s) (partsL t) < 0)
theorem lessP_spec {s t : List UInt8} (w0 : World) (hg : Gl w0) (hs1 : s.length < 4294967281) (ht1 : t.length < 4294967281) : Calls Tryz.prog 23 #[str s, str t] w0 (Ret0 (.bool (lessP s t)) w0) :=
 (Gy.less_spec w0 hg hs1 ht1).mono fun e w' ⟨h1, h2⟩ => ⟨h1, gx_of h2⟩
/-- A list of paths with numbers, as a map of the program's. -/
abbrev DL := List (List UInt8 × Nat)
def entN : DL → Nat → List SEnt
 | [], _ => []
 | e :: D, k => (e.1, .int .i64 (e.2 : Nat), k) :: entN D (k + 1)
def lookN (p : List UInt8) : DL → Option Nat
 | [] => none
 | e :: D => if p = e.1 then some e.2 else lookN p D
def updN (p : List UInt8) (n : Nat) : DL → DL
 | [] => []
 | e :: D => if p = e.1 then (e.1, n) :: D else e :: updN p n D
def putN (p : List UInt8) (n : Nat) (D : DL) : DL := if (lookN p D).isSome then updN p n D else D ++ [(p, n)]
theorem find_entN (p : List UInt8) : ∀ (D : DL) (k i : Nat), (findS p (entN D k) i).map (·.2) = (lookN p D).map fun n => Value.int .i64 (n : Nat)
 | [], _, _ => rfl
 | e :: D, k, i => by
  rw [entN, findS, lookN]
  by_cases h : p = e.1
  ·rw [if_pos h, if_pos h]; rfl
  ·rw [if_neg h, if_neg h]; exact find_entN p D (k + 1) (i + 1)
theorem find_some (p : List UInt8) (D : DL) (k i : Nat) : (findS p (entN D k) i).isSome = (lookN p D).isSome := by
 have h := congrArg Option.isSome (find_entN p D k i)
 simpa using h
theorem upd_entN (p : List UInt8) (n : Nat) : ∀ (D : DL) (k : Nat), updS p (.int .i64 (n : Nat)) (entN D k) = entN (updN p n D) k
 | [], _ => rfl
 | e :: D, k => by
  rw [entN, updS, updN]
  by_cases h : p = e.1
  ·rw [if_pos h, if_pos h]; rfl
  ·rw [if_neg h, if_neg h, entN, upd_entN p n D]
theorem entN_app (p : List UInt8) (n : Nat) : ∀ (D : DL) (k : Nat), entN (D ++ [(p, n)]) k = entN D k ++ [(p, .int .i64 (n : Nat), k + D.length)]
 | [], k => rfl
 | e :: D, k => by
  rw [List.cons_append, entN, entN_app p n D, entN, List.cons_append, List.length_cons, show k + 1 + D.length = k + (D.length + 1) by omega]
theorem updN_len (p : List UInt8) (n : Nat) : ∀ D : DL, (updN p n D).length = D.length
 | [] => rfl
 | e :: D => by
  rw [updN]
  split
  ·rfl
  ·rw [List.length_cons, updN_len p n D, List.length_cons]
theorem put_entN (p : List UInt8) (n : Nat) (D : DL) : mapS (putMS p (.int .i64 (n : Nat)) D.length (entN D 0)) (putCS p D.length (entN D 0)) = mapS (entN (putN p n D) 0) (putN p n D).length := by
 unfold putMS putCS putN
 rw [find_some]
 split
 ·rw [upd_entN, updN_len]
 ·rw [entN_app, Nat.zero_add, List.length_append]; rfl
theorem lookN_upd (p q : List UInt8) (n : Nat) : ∀ D : DL, lookN q (updN p n D) = if q = p then (lookN q D).map (fun _ => n) else lookN q D
 | [] => by simp [updN, lookN]
 | e :: D => by
  rw [updN]
  by_cases h : p = e.1
  ·rw [if_pos h, lookN, lookN]
   by_cases h2 : q = e.1
   ·rw [if_pos h2, if_pos h2, if_pos (h2.trans h.symm)]; rfl
   ·rw [if_neg h2, if_neg h2, if_neg (fun h3 => h2 (h3.trans h))]
  ·rw [if_neg h, lookN, lookN, lookN_upd p q n D]
   by_cases h2 : q = e.1
   ·rw [if_pos h2, if_pos h2, if_neg (fun h3 => h (h3.symm.trans h2))]
   ·rw [if_neg h2, if_neg h2]
theorem lookN_app (p q : List UInt8) (n : Nat) : ∀ D : DL, lookN q (D ++ [(p, n)]) = if (lookN q D).isSome then lookN q D else if q = p then some n else none
 | [] => by simp [lookN]
 | e :: D => by
  rw [List.cons_append, lookN, lookN, lookN_app p q n D]
  by_cases h2 : q = e.1
  ·simp [h2]
  ·rw [if_neg h2, if_neg h2]
theorem lookN_put (p q : List UInt8) (n : Nat) (D : DL) : lookN q (putN p n D) = if q = p then some n else lookN q D := by
 unfold putN
 split
 ·rename_i h
  rw [lookN_upd]
  split
  ·rename_i h2
   rw [h2]
   cases hl : lookN p D with
   | none => rw [hl] at h; cases h
   | some m => rfl
  ·rfl
 ·rename_i h
  rw [lookN_app]
  by_cases h2 : q = p
  ·rw [h2, if_neg h, if_pos rfl, if_pos rfl]
  ·rw [if_neg h2, if_neg h2]
   cases lookN q D <;> rfl
/-- An item: its bytes as a value, and what they hold. -/
structure It where
 p : List UInt8
 d : Bool
 v : Value
 x : List UInt8
/-- One item checked: what is known of directories, the path ahead of it. -/
def chkStep (D : DL) (prev : Option (List UInt8)) (x : It) : Option DL :=
 if (splitR x.p).2.2 ≠ 0 then none else
 match lookN (splitR x.p).1 D with
 | none => none
 | some n =>
  if 1024 ≤ n then none else
  if prev.any (fun q => !lessP q x.p) then none else
  if x.d = true ∧ 0 < x.x.length then none else
  if 1048576 < x.x.length then none else
  some (if x.d = true then putN x.p 0 (putN (splitR x.p).1 (n + 1) D) else putN (splitR x.p).1 (n + 1) D)
def chkGo (D : DL) (prev : Option (List UInt8)) : List It → Option DL
 | [] => some D
 | x :: r => match chkStep D prev x with
  | none => none
  | some D' => chkGo D' (some x.p) r
def sumL (l : List It) : Nat := (l.map fun x => x.x.length).sum
def chkE (l : List It) : Int := if 65536 ≤ l.length then 64 else match chkGo [([], 0)] none l with
 | none => 64
 | some _ => if 67108864 < sumL l then 64 else 0
end Go.Gx
