/- Files in memory: Open in plain words; how the files are kept. No program in sight. -/
import Derived.Test.YtepaojbhjgefiaaDoorVs14
namespace Go.Gx
open Go.Proofs
set_option linter.unusedVariables false
set_option linter.unusedSimpArgs false
def VS.put1 (s : VS) (q : List UInt8) (M : List (List UInt8)) (x : Option Nat) : VS × Nat := match x with
  | some i => (M.foldl VS.addDir s, i)
  | none => ((M.foldl VS.addDir s).addFile q [], (M.foldl VS.addDir s).F.length)
def VS.trunc (s : VS) (i : Nat) : VS := { s with F := s.F.set i (s.pth i, []), by_ := s.by_ - s.len i }
def VS.slotI (s : VS) : Nat := (s.H.findIdx? Option.isNone).getD s.H.length
def VS.grab (s : VS) (i m : Nat) : VS := { s with H := (if s.slotI < s.H.length then s.H.set s.slotI (some (i, 0, m)) else s.H ++ [some (i, 0, m)]), op := s.op + 1 }
def VS.cutI (s : VS) (m i : Nat) : VS := if m % 4 = 2 then s.trunc i else s
def VS.open (s : VS) (p : List UInt8) (mode : Int) : Int × Int × VS :=
  if mode < 0 ∨ 7 < mode ∨ mode = 4 then (0, 94, s) else
  if cleanE p ≠ 0 then (0, cleanE p, s) else
  if cleanS p = [] then (0, 92, s) else
  if (s.way (decide (4 ≤ mode)) (upsF [] (cleanS p)) []).2 ≠ 0 then (0, (s.way (decide (4 ≤ mode)) (upsF [] (cleanS p)) []).2, s) else
  if s.mayO (cleanS p) (s.file (cleanS p)) mode (s.way (decide (4 ≤ mode)) (upsF [] (cleanS p)) []).1 ≠ 0 then (0, s.mayO (cleanS p) (s.file (cleanS p)) mode (s.way (decide (4 ≤ mode)) (upsF [] (cleanS p)) []).1, s) else
  let a := s.put1 (cleanS p) (s.way (decide (4 ≤ mode)) (upsF [] (cleanS p)) []).1 (s.file (cleanS p))
  ((a.1.cutI mode.toNat a.2).slotI, 0, (a.1.cutI mode.toNat a.2).grab a.2 (mode.toNat % 4))
/-- How the files are kept, whatever is done. -/
structure VS.Sane (s : VS) : Prop where
  ok : s.Ok
  root : (s.dir []).isSome
  cnt : ∀ e ∈ s.D, e.2 ≤ s.D.length + s.F.length
  lim : s.F.length + s.D.length ≤ 65536
  up : ∀ e ∈ s.F, ∀ u ∈ upsF [] e.1, (s.dir u).isSome
  sum : s.by_ = (s.F.map (·.2.length)).sum
  hl : s.H.length ≤ 64
  op : s.op = (s.H.filter Option.isSome).length
theorem addDir_F (s : VS) (d : List UInt8) : (s.addDir d).F = s.F ∧ (s.addDir d).by_ = s.by_ ∧ (s.addDir d).H = s.H ∧ (s.addDir d).op = s.op ∧ (s.addDir d).qb = s.qb ∧ (s.addDir d).qf = s.qf ∧ (s.addDir d).qo = s.qo := by
  unfold VS.addDir
  split <;> exact ⟨rfl, rfl, rfl, rfl, rfl, rfl, rfl⟩
theorem foldDir_F : ∀ (M : List (List UInt8)) (s : VS), (M.foldl VS.addDir s).F = s.F ∧ (M.foldl VS.addDir s).by_ = s.by_ ∧ (M.foldl VS.addDir s).H = s.H ∧ (M.foldl VS.addDir s).op = s.op ∧ (M.foldl VS.addDir s).qb = s.qb ∧ (M.foldl VS.addDir s).qf = s.qf ∧ (M.foldl VS.addDir s).qo = s.qo
  | [], s => ⟨rfl, rfl, rfl, rfl, rfl, rfl, rfl⟩
  | d :: M, s => by
    have hobt := addDir_F s d
    obtain ⟨a1, a2, a3, a4, a5, a6, a7⟩ := hobt
    have hobt := foldDir_F M (s.addDir d)
    obtain ⟨b1, b2, b3, b4, b5, b6, b7⟩ := hobt
    rw [List.foldl_cons]
    exact ⟨b1.trans a1, b2.trans a2, b3.trans a3, b4.trans a4, b5.trans a5, b6.trans a6, b7.trans a7⟩
theorem bump_mem {s : VS} {j : Nat} {e : List UInt8 × Nat} (h : e ∈ (s.bump j).D) : ∃ e0 ∈ s.D, e.1 = e0.1 ∧ e.2 ≤ e0.2 + 1 := by
  have hobt := List.mem_iff_getElem?.1 h
  obtain ⟨i, hi⟩ := hobt
  have h2 : ((s.D.modify j fun e => (e.1, e.2 + 1))[i]?) = some e := hi
  rw [List.getElem?_modify] at h2
  cases hx : s.D[i]? with
  | none => rw [hx] at h2; simp at h2
  | some e0 =>
    rw [hx] at h2
    refine ⟨e0, List.mem_of_getElem? hx, ?_⟩
    split at h2
    · simp at h2
      rw [← h2]
      exact ⟨rfl, Nat.le_refl _⟩
    · simp at h2
      rw [← h2]
      exact ⟨rfl, by omega⟩
theorem bump_len (s : VS) (j : Nat) : (s.bump j).D.length = s.D.length := by simp [VS.bump]
theorem cnt_addDir {s : VS} {d : List UInt8} (h : ∀ e ∈ s.D, e.2 ≤ s.D.length + s.F.length) (hp : (s.dir (splitR d).1).isSome) : (∀ e ∈ (s.addDir d).D, e.2 ≤ (s.addDir d).D.length + (s.addDir d).F.length) ∧ (s.addDir d).D.length = s.D.length + 1 := by
  have hobt := Option.isSome_iff_exists.1 hp
  obtain ⟨j, hj⟩ := hobt
  have e : s.addDir d = { s.bump j with D := (s.bump j).D ++ [(d, 0)] } := by unfold VS.addDir; rw [hj]
  have hl : (s.addDir d).D.length = s.D.length + 1 := by rw [e]; simp [VS.bump]
  refine ⟨fun x hx => ?_, hl⟩
  rw [hl, (addDir_F s d).1]
  rw [e] at hx
  rcases List.mem_append.1 hx with h1 | h1
  · have hobt := bump_mem h1
    obtain ⟨e0, h2, _, h3⟩ := hobt
    have := h e0 h2
    omega
  · rw [List.mem_singleton.1 h1]
    exact Nat.zero_le _
/-- Directories made, one after the other. -/
theorem made_fold : ∀ (M : List (List UInt8)) (s : VS), Made s M → (∀ e ∈ s.D, e.2 ≤ s.D.length + s.F.length) → (∀ e ∈ (M.foldl VS.addDir s).D, e.2 ≤ (M.foldl VS.addDir s).D.length + (M.foldl VS.addDir s).F.length) ∧ (M.foldl VS.addDir s).D.length = s.D.length + M.length ∧ (∀ u, (s.dir u).isSome → ((M.foldl VS.addDir s).dir u).isSome) ∧ ∀ u ∈ M, ((M.foldl VS.addDir s).dir u).isSome
  | [], s, _, h => ⟨h, rfl, fun u hu => hu, fun u hu => by cases hu⟩
  | d :: M, s, ⟨h1, h2, h3⟩, h => by
    have hobt := cnt_addDir h h1
    obtain ⟨c1, c2⟩ := hobt
    have hobt := made_fold M (s.addDir d) h3 c1
    obtain ⟨i1, i2, i3, i4⟩ := hobt
    rw [List.foldl_cons]
    have hk : ∀ u, (s.dir u).isSome → ((s.addDir d).dir u).isSome := fun u hu => by rw [dir_addDir h1, if_pos hu]; exact hu
    refine ⟨i1, by rw [i2, c2, List.length_cons]; omega, fun u hu => i3 u (hk u hu), fun u hu => ?_⟩
    rcases List.mem_cons.1 hu with e | e
    · rw [e]
      refine i3 d ?_
      rw [dir_addDir h1, h2]
      simp
    · exact i4 u e
end Go.Gx
