/- Files in memory: looked up by path; the way to a path. Files in memory: add. Files in memory: add, the walk. Files in memory: may a file be opened? Files in memory: what is missing on a way can be made, in this order. No program in sight. Files in memory: a free place among the handles; bits of a mode. Files in memory: Open in plain words; how the files are kept. No program in sight. Files in memory: a file opened, a handle laid. No program in sight. Files in memory: Open, the walk. -/
import Derived.Test.YtepaojbhjgefiaaGreatDoorC4
import Derived.Test.YtepaojbhjgefiaaGreatDoorC2
import Derived.Test.YtepaojbhjgefiaaGreatDoorC1
set_option linter.unusedVariables false
set_option linter.unusedSimpArgs false
/-! Vs9 -/
namespace Go.Gx
open Go.Proofs Go.Proofs.Tryz
set_option maxRecDepth 100000
section
variable {P : Program} {f : Slots} {w : World} {dd : Option Tmp} {ty : TypeId} {pos : String} {af : Array Edge} {x y : Operand} {T E K : TypeId} {M : List SEnt} {clock r : Nat} {d : List UInt8} {z u : Value}
theorem run_lookupSE (ht : P.underlying T = some (.map K E)) (hK : P.underlying K = some .string) (hz : (zeroValue E).run P w = .ok z w) (hu : ((findS d M 0).map (·.2)).getD z = u) (hx : ev f x = .map (some r)) (hy : ev f y = str d) (hb : w.heap[r]? = some (mapS M clock)) :
  (execOp (ev f) ⟨dd, .lookup T x y false, ty, pos, af, none⟩).run P w = .ok (.value u) w := by
 rw [← hu]
 exact run_lookupS1 ht hK hz hx hy hb
end
theorem zFile (w : World) : (zeroValue 62).run Tryz.prog w = .ok (.pointer none) w := by kernel_rfl
theorem zDir (w : World) : (zeroValue 72).run Tryz.prog w = .ok (.pointer none) w := by kernel_rfl
def VS.file (s : VS) (p : List UInt8) : Option Nat := s.F.findIdx? (fun e => decide (e.1 = p))
def VS.dir (s : VS) (p : List UInt8) : Option Nat := s.D.findIdx? (fun e => decide (e.1 = p))
def fVal (Fs : List FB) : Option Nat → Value
 | none => .pointer none
 | some i => .pointer ((Fs[i]?).map fun r => ⟨r.b, 0, none⟩)
def dVal (Ds : List DB) : Option Nat → Value
 | none => .pointer none
 | some i => .pointer ((Ds[i]?).map fun r => ⟨r.b, 0, none⟩)
theorem lookF (p : List UInt8) : ∀ (Fs : List FB) (k n : Nat), ((findS p (mapF Fs k) n).map (·.2)).getD (.pointer none) = fVal Fs ((Fs.map fun r => (r.p, r.x)).findIdx? (fun e => decide (e.1 = p)))
 | [], k, n => rfl
 | r :: Fs, k, n => by
  have ih := lookF p Fs (k + 1) (n + 1)
  rw [mapF, findS, List.map_cons, List.findIdx?_cons]
  by_cases h : r.p = p
  ·simp [h, fVal]
  ·rw [if_neg (fun e => h (Eq.symm e)), ih]
   simp only [h, decide_false]
   cases (Fs.map fun r => (r.p, r.x)).findIdx? (fun e => decide (e.1 = p)) with
   | none => rfl
   | some i => simp [fVal]
theorem lookD (p : List UInt8) : ∀ (Ds : List DB) (k n : Nat), ((findS p (mapDi Ds k) n).map (·.2)).getD (.pointer none) = dVal Ds ((Ds.map fun r => (r.p, r.n)).findIdx? (fun e => decide (e.1 = p)))
 | [], k, n => rfl
 | r :: Ds, k, n => by
  have ih := lookD p Ds (k + 1) (n + 1)
  rw [mapDi, findS, List.map_cons, List.findIdx?_cons]
  by_cases h : r.p = p
  ·simp [h, dVal]
  ·rw [if_neg (fun e => h (Eq.symm e)), ih]
   simp only [h, decide_false]
   cases (Ds.map fun r => (r.p, r.n)).findIdx? (fun e => decide (e.1 = p)) with
   | none => rfl
   | some i => simp [dVal]
section
variable {bf mf md : Nat} {s : VS} {L Lh : List (Nat × Obj)} {vh : Value} {Fs : List FB} {Ds : List DB} {Hs : List (Option HB)} {w0 : World}
theorem VOpen.lookF (o : VOpen bf s L mf md vh Lh Fs Ds Hs) (p : List UInt8) : ((findS p (mapF Fs 0) 0).map (·.2)).getD (.pointer none) = fVal Fs (s.file p) := by
 rw [Gx.lookF, o.F]
 rfl
theorem VOpen.lookD (o : VOpen bf s L mf md vh Lh Fs Ds Hs) (p : List UInt8) : ((findS p (mapDi Ds 0) 0).map (·.2)).getD (.pointer none) = dVal Ds (s.dir p) := by
 rw [Gx.lookD, o.D]
 rfl
theorem VOpen.file_at (o : VOpen bf s L mf md vh Lh Fs Ds Hs) {p : List UInt8} {i : Nat} (h : s.file p = some i) : ∃ r, Fs[i]? = some r ∧ r.p = p ∧ fVal Fs (s.file p) = .pointer (some ⟨r.b, 0, none⟩) := by
 have h1 := h
 unfold VS.file at h1
 rw [← o.F] at h1
 have hobt := List.findIdx?_eq_some_iff_getElem.1 h1
 obtain ⟨h2, h3, _⟩ := hobt
 rw [List.length_map] at h2
 refine ⟨Fs[i], List.getElem?_eq_getElem h2, by simpa using h3, ?_⟩
 rw [h]
 simp [fVal, h2]
theorem VOpen.dir_at (o : VOpen bf s L mf md vh Lh Fs Ds Hs) {p : List UInt8} {i : Nat} (h : s.dir p = some i) : ∃ r, Ds[i]? = some r ∧ r.p = p ∧ dVal Ds (s.dir p) = .pointer (some ⟨r.b, 0, none⟩) := by
 have h1 := h
 unfold VS.dir at h1
 rw [← o.D] at h1
 have hobt := List.findIdx?_eq_some_iff_getElem.1 h1
 obtain ⟨h2, h3, _⟩ := hobt
 rw [List.length_map] at h2
 refine ⟨Ds[i], List.getElem?_eq_getElem h2, by simpa using h3, ?_⟩
 rw [h]
 simp [dVal, h2]
end
/-- The directories on the way: what stands before each '/'. -/
def upsF : List UInt8 → List UInt8 → List (List UInt8)
 | _, [] => []
 | pre, c :: t => if c = 47 then pre :: upsF (pre ++ [c]) t else upsF (pre ++ [c]) t
theorem ups_len : ∀ (t pre : List UInt8), (upsF pre t).length ≤ t.length
 | [], pre => by simp [upsF]
 | c :: t, pre => by
  have := ups_len t (pre ++ [c])
  unfold upsF
  split <;> simp only [List.length_cons] <;> omega
theorem ups_step {p : List UInt8} {i : Nat} (h : i < p.length) : upsF (p.take i) (p.drop i) = if p[i] = 47 then p.take i :: upsF (p.take (i + 1)) (p.drop (i + 1)) else upsF (p.take (i + 1)) (p.drop (i + 1)) := by
 rw [List.drop_eq_getElem_cons h, upsF, ← List.take_append_getElem h]
theorem ups_skip {p : List UInt8} : ∀ (k i : Nat), i + k ≤ p.length → (∀ j (h : i + j < p.length), j < k → p[i + j] ≠ 47) → upsF (p.take i) (p.drop i) = upsF (p.take (i + k)) (p.drop (i + k))
 | 0, i, _, _ => rfl
 | k + 1, i, hl, h => by
  have h0 : p[i] ≠ 47 := h 0 (by omega) (by omega)
  rw [ups_step (by omega), if_neg h0, ups_skip k (i + 1) (by omega) (fun j hj hk => by
   have := h (j + 1) (by omega) (by omega)
   simpa [Nat.add_assoc, Nat.add_comm 1 j] using this), show i + 1 + k = i + (k + 1) by omega]
theorem dec_step {p : List UInt8} {i : Nat} (hi : i < p.length) (h : p[i] ≠ 47) : ∃ c wd, Utf8.decode ⟨⟨p⟩⟩ i = (c, wd) ∧ 1 ≤ wd ∧ i + wd ≤ p.length ∧ upsF (p.take i) (p.drop i) = upsF (p.take (i + wd)) (p.drop (i + wd)) := by
 by_cases hb : bAt p i < 128
 ·refine ⟨_, 1, dec_ascii hb, Nat.le_refl _, by omega, ups_skip 1 i (by omega) fun j hj hk => ?_⟩
  obtain rfl : j = 0 := by omega
  exact h
 ·have hobt := dec_wide hi (by omega)
  obtain ⟨h1, h2, h3, h4, h5⟩ := hobt
  refine ⟨_, _, rfl, h3, h4, ups_skip _ i h4 fun j hj hk => ?_⟩
  have h6 := h5 j hk
  intro e
  have e2 : bAt p (i + j) = (p[i + j]).toNat := by simp [bAt, hj]
  rw [e2, e] at h6
  exact absurd h6 (by decide)
theorem dec_slash {p : List UInt8} {i : Nat} (hi : i < p.length) (h : p[i] = 47) : Utf8.decode ⟨⟨p⟩⟩ i = (47, 1) := by
 have e : bAt p i = 47 := by
  have e2 : bAt p i = (p[i]).toNat := by simp [bAt, hi]
  rw [e2, h]
  rfl
 have h1 := dec_ascii (l := p) (i := i) (by omega)
 rw [e] at h1
 exact h1
/-- What Open and List find on the way. -/
def VS.way (s : VS) (mend : Bool) : List (List UInt8) → List (List UInt8) → List (List UInt8) × Int
 | [], acc => (acc, 0)
 | up :: l, acc => if (s.file up).isSome then ([], 93) else if (s.dir up).isSome then s.way mend l acc else if mend = false then ([], 91) else s.way mend l (acc ++ [up])
theorem perm_app {α : Type} {a b : α} {l : List α} : (a :: b :: l).Perm (l ++ [a, b]) := by
 classical
 exact List.perm_iff_count.2 fun x => by
  simp only [List.count_append, List.count_cons, List.count_nil]
  omega
section
variable {bf mf md : Nat} {s : VS} {L Lh : List (Nat × Obj)} {vh : Value} {Fs : List FB} {Ds : List DB} {Hs : List (Option HB)} {w0 : World}
set_option maxHeartbeats 2000000 in
theorem way_spec (o : VOpen bf s L mf md vh Lh Fs Ds Hs) (hw : ∀ p ∈ L, w0.heap[p.1]? = some p.2) {p : List UInt8} {mend : Bool} (hp : p.length ≤ 4096) : Calls Tryz.prog 46 #[.pointer (some ⟨bf, 0, none⟩), str p, .bool mend] w0 fun e w' => ∃ u Lu, e = .returned (.tuple #[u, .int .i64 (s.way mend (upsF [] p) []).2]) ∧ OwnSl 9 1 u (s.way mend (upsF [] p) []).1.length (strs (s.way mend (upsF [] p) []).1) Lu ∧ Step [] Lu w0 w' := by
 have hs : Step [] [] w0 w0 := Step.refl w0
 have hat := fun {w} hw => o.at (w := w) hw
 have hlw : ∀ {L' w}, Step [] L' w0 w → ∀ p ∈ L, w.heap[p.1]? = some p.2 := fun hs p hp => hs.old (hw p hp) (by simp)
 have hb8 : True := trivial
 have hul := ups_len p []
 have hobt : ∃ res, s.way mend (upsF [] p) [] = res := ⟨_, rfl⟩
 obtain ⟨res, hres⟩ := hobt
 rw [hres]
 refine calls (n := 47) Tryz.func46 rfl rfl rfl ?_
 refine cQ <| cR <| wa rfl <| wa rfl <| wZ <| cQ <| cR <| wa rfl <| wZ <| cQ <| cQ <| cR <| wm rfl ?_
 refine WL.rangeS underlying9 rfl rfl hs (fun b12 w hs => ?_)
 refine wZ <| CW.block ?_
 refine CW.loop (fun m f w' => ∃ i acc u Lu, i ≤ p.length ∧ m = p.length - i ∧ s.way mend (upsF (p.take i) (p.drop i)) acc = res ∧ acc.length ≤ i ∧ OwnSl 9 1 u acc.length (strs acc) Lu ∧ Step [] ((b12, .stringIter ⟨⟨p⟩⟩ i) :: Lu) w0 w' ∧ Holds f [(0, .pointer (some ⟨bf, 0, none⟩)), (1, str p), (2, .bool mend), (8, u), (12, .pointer (some ⟨b12, 0, none⟩))]) (m := p.length) ?_ ?_
 ·exact ⟨0, [], _, [], by omega, by omega, by simpa using hres, by simp, .nil _ _, hs, rfl, rfl, rfl, rfl, rfl, trivial⟩
 ·clear hs
  rintro m f w ⟨i, acc, u, Lu, hi, rfl, hway, hal, hu, hs, hf⟩
  have hobt := hf.chain
  obtain ⟨g, rfl⟩ := hobt
  by_cases hlt : i < p.length
  ·by_cases hsl : p[i] = 47
   ·have hd := dec_slash hlt hsl
    have hix : p[i]? = some 47 := by rw [List.getElem?_eq_getElem hlt, hsl]
    rw [ups_step hlt, if_pos hsl, VS.way] at hway
    have hupl : (p.take i).length = i := by rw [List.length_take]; omega
    have hvF := o.lookF (p.take i)
    have hvD := o.lookD (p.take i)
    cases hF : s.file (p.take i) with
    | some j =>
     have hobt := o.file_at hF
     obtain ⟨r, _, _, hv⟩ := hobt
     rw [hv] at hvF
     rw [hF, Option.isSome_some, if_pos rfl] at hway
     subst hway
     refine cQ <| cR ?_
     refine WL.nextS rfl rfl hs (by omega) (hd) (fun w hs => ?_)
     refine wx rfl rfl rfl <| wZ ?_
     repeat (first | refine cQ ?_ | refine CW.block ?_ | refine cK ?_ | refine CW.condT rfl ?_)
     refine cR <| wx rfl rfl rfl <| wa rfl <| wZ <| cQ <| cQ <| cR <| wm rfl <| wm rfl <| wV rfl (run_strIdx underlying9 rfl rfl (hix)) <| wV rfl (run_bF (run_neq rfl rfl) (by exact fun h => h rfl)) <| wZ ?_
     repeat (first | refine cQ ?_ | refine cK ?_ | refine CW.condF rfl ?_)
     refine cR <| wm rfl <| wm rfl <| wV rfl (run_sliceStr underlying9 rfl rfl rfl (by omega) (by omega)) <| wa rfl <| wZ ?_
     repeat (first | refine cQ ?_ | refine CW.block ?_)
     refine cR <| wm rfl <| wn rfl rfl <| wV rfl (run_field (o' := 0) underlying61 rfl ty57 rfl rfl rfl) <| wV rfl (run_load1 ty57 rfl ((hat (hlw hs)).cell (j := 0) rfl)) <| wm rfl <| wV rfl (run_lookupSE underlying57 underlying9 (zFile _) (hvF) rfl rfl (o.mf_ (hlw hs))) <| wV rfl (run_ptrNilNe underlying62 rfl rfl) <| wa rfl <| wZ ?_
     refine cC rfl (fun h => ?_) (fun h => ?_)
     ·refine cQ <| cR <| wa rfl <| wa rfl <| wZ ?_
      refine CW.ret ?_
      refine fin_ret2 rfl ?_
      exact ⟨_, [], rfl, .nil _ _, hs.clear⟩
     ·cases h
    | none =>
     rw [hF] at hvF
     rw [hF, Option.isSome_none, if_neg (by simp)] at hway
     cases hD : s.dir (p.take i) with
     | some j =>
      have hobt := o.dir_at hD
      obtain ⟨r, _, _, hv⟩ := hobt
      rw [hv] at hvD
      rw [hD, Option.isSome_some, if_pos rfl] at hway
      refine cQ <| cR ?_
      refine WL.nextS rfl rfl hs (by omega) (hd) (fun w hs => ?_)
      refine wx rfl rfl rfl <| wZ ?_
      repeat (first | refine cQ ?_ | refine CW.block ?_ | refine cK ?_ | refine CW.condT rfl ?_)
      refine cR <| wx rfl rfl rfl <| wa rfl <| wZ <| cQ <| cQ <| cR <| wm rfl <| wm rfl <| wV rfl (run_strIdx underlying9 rfl rfl (hix)) <| wV rfl (run_bF (run_neq rfl rfl) (by exact fun h => h rfl)) <| wZ ?_
      repeat (first | refine cQ ?_ | refine cK ?_ | refine CW.condF rfl ?_)
      refine cR <| wm rfl <| wm rfl <| wV rfl (run_sliceStr underlying9 rfl rfl rfl (by omega) (by omega)) <| wa rfl <| wZ ?_
      repeat (first | refine cQ ?_ | refine CW.block ?_)
      refine cR <| wm rfl <| wn rfl rfl <| wV rfl (run_field (o' := 0) underlying61 rfl ty57 rfl rfl rfl) <| wV rfl (run_load1 ty57 rfl ((hat (hlw hs)).cell (j := 0) rfl)) <| wm rfl <| wV rfl (run_lookupSE underlying57 underlying9 (zFile _) (hvF) rfl rfl (o.mf_ (hlw hs))) <| wV rfl (run_nilNe underlying62 rfl rfl) <| wa rfl <| wZ ?_
      refine cC rfl (fun h => ?_) (fun h => ?_)
      ·cases h
      refine cQ <| cR <| wm rfl <| wn rfl rfl <| wV rfl (run_field (o' := 1) underlying61 rfl ty58 rfl rfl rfl) <| wV rfl (run_load1 ty58 rfl ((hat (hlw hs)).cell (j := 1) rfl)) <| wm rfl <| wV rfl (run_lookupSE underlying58 underlying9 (zDir _) (hvD) rfl rfl (o.md_ (hlw hs))) <| wV rfl (run_ptrNilNe underlying72 rfl rfl) <| wa rfl <| wZ ?_
      refine cC rfl (fun h => ?_) (fun h => ?_)
      ·refine cK ?_
       refine (show _ ∧ _ from ⟨rfl, _, ?_, i + 1, acc, u, Lu, by omega, rfl, hway, by omega, hu, hs, rfl, rfl, rfl, rfl, rfl, trivial⟩)
       omega
      ·cases h
     | none =>
      rw [hD] at hvD
      rw [hD, Option.isSome_none, if_neg (by simp)] at hway
      cases mend with
      | false =>
       rw [if_pos rfl] at hway
       subst hway
       refine cQ <| cR ?_
       refine WL.nextS rfl rfl hs (by omega) (hd) (fun w hs => ?_)
       refine wx rfl rfl rfl <| wZ ?_
       repeat (first | refine cQ ?_ | refine CW.block ?_ | refine cK ?_ | refine CW.condT rfl ?_)
       refine cR <| wx rfl rfl rfl <| wa rfl <| wZ <| cQ <| cQ <| cR <| wm rfl <| wm rfl <| wV rfl (run_strIdx underlying9 rfl rfl (hix)) <| wV rfl (run_bF (run_neq rfl rfl) (by exact fun h => h rfl)) <| wZ ?_
       repeat (first | refine cQ ?_ | refine cK ?_ | refine CW.condF rfl ?_)
       refine cR <| wm rfl <| wm rfl <| wV rfl (run_sliceStr underlying9 rfl rfl rfl (by omega) (by omega)) <| wa rfl <| wZ ?_
       repeat (first | refine cQ ?_ | refine CW.block ?_)
       refine cR <| wm rfl <| wn rfl rfl <| wV rfl (run_field (o' := 0) underlying61 rfl ty57 rfl rfl rfl) <| wV rfl (run_load1 ty57 rfl ((hat (hlw hs)).cell (j := 0) rfl)) <| wm rfl <| wV rfl (run_lookupSE underlying57 underlying9 (zFile _) (hvF) rfl rfl (o.mf_ (hlw hs))) <| wV rfl (run_nilNe underlying62 rfl rfl) <| wa rfl <| wZ ?_
       refine cC rfl (fun h => ?_) (fun h => ?_)
       ·cases h
       refine cQ <| cR <| wm rfl <| wn rfl rfl <| wV rfl (run_field (o' := 1) underlying61 rfl ty58 rfl rfl rfl) <| wV rfl (run_load1 ty58 rfl ((hat (hlw hs)).cell (j := 1) rfl)) <| wm rfl <| wV rfl (run_lookupSE underlying58 underlying9 (zDir _) (hvD) rfl rfl (o.md_ (hlw hs))) <| wV rfl (run_nilNe underlying72 rfl rfl) <| wa rfl <| wZ ?_
       refine cC rfl (fun h => ?_) (fun h => ?_)
       ·cases h
       refine cQ <| cR <| wm rfl <| wV rfl (run_not rfl) <| wa rfl <| wZ ?_
       refine cC rfl (fun h => ?_) (fun h => ?_)
       ·refine cQ <| cR <| wa rfl <| wa rfl <| wZ ?_
        refine CW.ret ?_
        refine fin_ret2 rfl ?_
        exact ⟨_, [], rfl, .nil _ _, hs.clear⟩
       ·cases h
      | true =>
       rw [if_neg (by simp)] at hway
       refine cQ <| cR ?_
       refine WL.nextS rfl rfl hs (by omega) (hd) (fun w hs => ?_)
       refine wx rfl rfl rfl <| wZ ?_
       repeat (first | refine cQ ?_ | refine CW.block ?_ | refine cK ?_ | refine CW.condT rfl ?_)
       refine cR <| wx rfl rfl rfl <| wa rfl <| wZ <| cQ <| cQ <| cR <| wm rfl <| wm rfl <| wV rfl (run_strIdx underlying9 rfl rfl (hix)) <| wV rfl (run_bF (run_neq rfl rfl) (by exact fun h => h rfl)) <| wZ ?_
       repeat (first | refine cQ ?_ | refine cK ?_ | refine CW.condF rfl ?_)
       refine cR <| wm rfl <| wm rfl <| wV rfl (run_sliceStr underlying9 rfl rfl rfl (by omega) (by omega)) <| wa rfl <| wZ ?_
       repeat (first | refine cQ ?_ | refine CW.block ?_)
       refine cR <| wm rfl <| wn rfl rfl <| wV rfl (run_field (o' := 0) underlying61 rfl ty57 rfl rfl rfl) <| wV rfl (run_load1 ty57 rfl ((hat (hlw hs)).cell (j := 0) rfl)) <| wm rfl <| wV rfl (run_lookupSE underlying57 underlying9 (zFile _) (hvF) rfl rfl (o.mf_ (hlw hs))) <| wV rfl (run_nilNe underlying62 rfl rfl) <| wa rfl <| wZ ?_
       refine cC rfl (fun h => ?_) (fun h => ?_)
       ·cases h
       refine cQ <| cR <| wm rfl <| wn rfl rfl <| wV rfl (run_field (o' := 1) underlying61 rfl ty58 rfl rfl rfl) <| wV rfl (run_load1 ty58 rfl ((hat (hlw hs)).cell (j := 1) rfl)) <| wm rfl <| wV rfl (run_lookupSE underlying58 underlying9 (zDir _) (hvD) rfl rfl (o.md_ (hlw hs))) <| wV rfl (run_nilNe underlying72 rfl rfl) <| wa rfl <| wZ ?_
       refine cC rfl (fun h => ?_) (fun h => ?_)
       ·cases h
       refine cQ <| cR <| wm rfl <| wV rfl (run_not rfl) <| wa rfl <| wZ ?_
       refine cC rfl (fun h => ?_) (fun h => ?_)
       ·cases h
       refine cR <| wm rfl <| wm rfl ?_
       refine WL.buildSlice (cs := [str (p.take i)]) underlying88 ty9 rfl (by decide) rfl (filled_s _ _ rfl) rfl hs (fun b25 w hs => ?_)
       have hsl1 : Sl w 1 (.slice (some ⟨b25, 0, none⟩) 1 1) 1 [str (p.take i)] := .own1 hs rfl
       refine WL.append underlying88 underlying88 ty9 rfl (by decide) rfl rfl (hu) ((hs.perm perm_app)) (hsl1) (Cells1.of_all rfl) (by first | omega | (simp only [List.length_append, List.length_cons, List.length_nil]; omega)) rfl (fun v26 Lv26 w hv26 hs => ?_)
       refine wa rfl <| wZ ?_
       have eP : strs acc ++ [str (p.take i)] = strs (acc ++ [p.take i]) := by simp [strs]
       rw [eP] at hv26
       replace hs := Step.dropX hs
       replace hs := hs.append_comm
       refine (show _ ∧ _ from ⟨rfl, _, ?_, i + 1, acc ++ [p.take i], _, _, by omega, rfl, hway, by rw [List.length_append]; simp; omega, ?_, hs, rfl, rfl, rfl, rfl, rfl, trivial⟩)
       ·omega
       ·rw [List.length_append]
        exact hv26
   ·have hobt := dec_step hlt hsl
    obtain ⟨c, wd, hd, hw1, hw2, hups⟩ := hobt
    rw [hups] at hway
    have hix : p[i]? = some p[i] := List.getElem?_eq_getElem hlt
    have hne : ¬ ((p[i].toNat : Nat) : Int) = 47 := fun e => hsl (UInt8.toNat_inj.1 (by have : (47 : UInt8).toNat = 47 := rfl; omega))
    refine cQ <| cR ?_
    refine WL.nextS rfl rfl hs (by omega) (hd) (fun w hs => ?_)
    refine wx rfl rfl rfl <| wZ ?_
    repeat (first | refine cQ ?_ | refine CW.block ?_ | refine cK ?_ | refine CW.condT rfl ?_)
    refine cR <| wx rfl rfl rfl <| wa rfl <| wZ <| cQ <| cQ <| cR <| wm rfl <| wm rfl <| wV rfl (run_strIdx underlying9 rfl rfl (hix)) <| wV rfl (run_bT (run_neq rfl rfl) (by exact hne)) <| wZ ?_
    refine cC rfl (fun h => ?_) (fun h => ?_)
    ·refine CW.exit ?_
     refine (show _ ∧ _ from ⟨rfl, _, ?_, i + wd, acc, u, Lu, hw2, rfl, hway, by omega, hu, hs, rfl, rfl, rfl, rfl, rfl, trivial⟩)
     omega
    ·cases h
  ·have hie : i = p.length := by omega
   rw [hie, List.drop_length, upsF, VS.way] at hway
   subst hway
   rw [hie] at hs
   refine cQ <| cR ?_
   refine WL.nextEnd rfl rfl hs (by omega) ?_
   refine wx rfl rfl rfl <| wZ ?_
   repeat (first | refine cQ ?_ | refine CW.exit ?_ | refine CW.condF rfl ?_)
   refine cR <| wm rfl <| wa rfl <| wa rfl <| wZ ?_
   refine CW.ret ?_
   refine fin_ret2 rfl ?_
   exact ⟨u, Lu, rfl, hu, hs.tail⟩
end
end Go.Gx
/-! Vs10 -/
namespace Go.Gx
open Go.Proofs Go.Proofs.Tryz
set_option maxRecDepth 100000
theorem Gl.pos {w : World} (h : Gl w) : 0 < w.heap.size := by
 obtain ⟨m, hm⟩ := h
 unfold World.cell? at hm
 split at hm
 ·rename_i hb; exact lt_of_get hb
 ·cases hm
theorem Gl.stepS {S : List Nat} {L : List (Nat × Obj)} {w w' : World} (h : Gl w) (hs : Step S L w w') (h0 : 0 ∉ S) : Gl w' := by
 have hlt := h.pos
 obtain ⟨m, hm⟩ := h
 refine ⟨m, ?_⟩
 rw [cell_of_heap (hs.chg.block 0 hlt h0)]
 exact hm
/-- A directory's count, one more. -/
def VS.bump (s : VS) (j : Nat) : VS := { s with D := s.D.modify j fun e => (e.1, e.2 + 1) }
def VS.addDir (s : VS) (d : List UInt8) : VS := match s.dir (splitR d).1 with
 | none => s
 | some j => { s.bump j with D := (s.bump j).D ++ [(d, 0)] }
def VS.addFile (s : VS) (d x : List UInt8) : VS := match s.dir (splitR d).1 with
 | none => s
 | some j => { s.bump j with F := s.F ++ [(d, x)], by_ := s.by_ + x.length }
def itC (p : List UInt8) (dir : Bool) (v : Value) : List Value := [str p, .bool dir, v]
theorem mapF_app (r : FB) : ∀ (Fs : List FB) (k : Nat), mapF (Fs ++ [r]) k = mapF Fs k ++ [(r.p, .pointer (some ⟨r.b, 0, none⟩), k + Fs.length)]
 | [], k => rfl
 | a :: l, k => by rw [List.cons_append, mapF, mapF_app r l (k + 1), mapF, List.length_cons, List.cons_append, show k + 1 + l.length = k + (l.length + 1) by omega]
theorem mapDi_app (r : DB) : ∀ (Ds : List DB) (k : Nat), mapDi (Ds ++ [r]) k = mapDi Ds k ++ [(r.p, .pointer (some ⟨r.b, 0, none⟩), k + Ds.length)]
 | [], k => rfl
 | a :: l, k => by rw [List.cons_append, mapDi, mapDi_app r l (k + 1), mapDi, List.length_cons, List.cons_append, show k + 1 + l.length = k + (l.length + 1) by omega]
theorem mapDi_set : ∀ (Ds : List DB) (k i : Nat) (r r' : DB), Ds[i]? = some r → r'.p = r.p → r'.b = r.b → mapDi (Ds.set i r') k = mapDi Ds k
 | [], _, _, _, _, h, _, _ => by simp at h
 | a :: l, k, 0, r, r', h, h1, h2 => by
  simp only [List.getElem?_cons_zero, Option.some.injEq] at h
  subst h
  simp only [List.set_cons_zero, mapDi, h1, h2]
 | a :: l, k, i + 1, r, r', h, h1, h2 => by
  rw [List.getElem?_cons_succ] at h
  simp only [List.set_cons_succ, mapDi, mapDi_set l (k + 1) i r r' h h1 h2]
theorem findF_none {p : List UInt8} : ∀ (Fs : List FB) (k n : Nat), (Fs.map fun r => (r.p, r.x)).findIdx? (fun e => decide (e.1 = p)) = none → findS p (mapF Fs k) n = none
 | [], _, _, _ => rfl
 | r :: l, k, n, h => by
  rw [List.map_cons, List.findIdx?_cons] at h
  by_cases he : r.p = p
  ·simp [he] at h
  ·rw [mapF, findS, if_neg (fun e => he (Eq.symm e))]
   refine findF_none l (k + 1) (n + 1) ?_
   simp only [he, decide_false] at h
   simpa using h
theorem findD_none {p : List UInt8} : ∀ (Ds : List DB) (k n : Nat), (Ds.map fun r => (r.p, r.n)).findIdx? (fun e => decide (e.1 = p)) = none → findS p (mapDi Ds k) n = none
 | [], _, _, _ => rfl
 | r :: l, k, n, h => by
  rw [List.map_cons, List.findIdx?_cons] at h
  by_cases he : r.p = p
  ·simp [he] at h
  ·rw [mapDi, findS, if_neg (fun e => he (Eq.symm e))]
   refine findD_none l (k + 1) (n + 1) ?_
   simp only [he, decide_false] at h
   simpa using h
section
variable {bf mf md : Nat} {s : VS} {L Lh : List (Nat × Obj)} {vh : Value} {Fs : List FB} {Ds : List DB} {Hs : List (Option HB)} {w0 : World}
def restD (mf : Nat) (Lh : List (Nat × Obj)) (Fs : List FB) (Ds : List DB) (Hs : List (Option HB)) (j : Nat) : List (Nat × Obj) := (mf, mapS (mapF Fs 0) Fs.length) :: (Lh ++ (Fs.flatMap FB.own ++ ((Ds.eraseIdx j).flatMap DB.own ++ Hs.flatMap HB.own)))
theorem VOpen.openD (o : VOpen bf s L mf md vh Lh Fs Ds Hs) {j : Nat} {r : DB} (hr : Ds[j]? = some r) :
  L.Perm ((r.b, blk 74 [str r.p, .int .i64 (r.n : Nat)]) :: (bf, blk 61 (fsC mf md vh s)) :: (md, mapS (mapDi Ds 0) Ds.length) :: restD mf Lh Fs Ds Hs j) := by
 classical
 have h1 := flat_open (f := DB.own) hr
 rw [o.L]
 refine List.perm_iff_count.2 fun x => ?_
 have e1 := h1.count_eq x
 simp only [restD, DB.own, List.count_append, List.count_cons, List.count_nil] at e1 ⊢
 omega
theorem VOpen.setD (o : VOpen bf s L mf md vh Lh Fs Ds Hs) {j : Nat} {r : DB} (hr : Ds[j]? = some r) :
  ∃ L', VOpen bf (s.bump j) L' mf md vh Lh Fs (Ds.set j { r with n := r.n + 1 }) Hs ∧ ((r.b, blk 74 [str r.p, .int .i64 (r.n + 1 : Nat)]) :: (bf, blk 61 (fsC mf md vh s)) :: (md, mapS (mapDi Ds 0) Ds.length) :: restD mf Lh Fs Ds Hs j).Perm L' := by
 classical
 have hlt := (List.getElem?_eq_some_iff.1 hr).1
 have h1 := flat_shut (f := DB.own) (a := { r with n := r.n + 1 }) hlt
 refine ⟨_, ⟨rfl, o.vh, o.fs, o.hs, o.F, ?_, o.H⟩, ?_⟩
 ·show _ = s.D.modify j _
  rw [← o.D]
  apply List.ext_getElem?
  intro i
  rw [List.getElem?_modify, List.getElem?_map, List.getElem?_map]
  by_cases h : j = i
  ·subst h
   rw [List.getElem?_set_self hlt, hr]
   simp
  ·rw [List.getElem?_set_ne h]
   simp [h]
 ·refine List.perm_iff_count.2 fun x => ?_
  have e1 := h1.count_eq x
  have e3 : mapDi (Ds.set j { r with n := r.n + 1 }) 0 = mapDi Ds 0 := mapDi_set Ds 0 j r _ hr rfl rfl
  simp only [restD, VS.bump, fsC, DB.own, List.count_append, List.count_cons, List.count_nil, List.length_set, e3] at e1 ⊢
  omega
/-- A new directory. -/
theorem VOpen.newD (o : VOpen bf s L mf md vh Lh Fs Ds Hs) {d : List UInt8} (hd : s.dir d = none) (b : Nat) {L'' : List (Nat × Obj)}
  (hL : L''.Perm ((b, blk 74 [str d, .int .i64 ((0 : Nat) : Int)]) :: (bf, blk 61 (fsC mf md vh s)) :: (mf, mapS (mapF Fs 0) Fs.length) :: (md, mapS (putMS d (.pointer (some ⟨b, 0, none⟩)) Ds.length (mapDi Ds 0)) (putCS d Ds.length (mapDi Ds 0))) :: (Lh ++ (Fs.flatMap FB.own ++ (Ds.flatMap DB.own ++ Hs.flatMap HB.own))))) :
  ∃ L', VOpen bf { s with D := s.D ++ [(d, 0)] } L' mf md vh Lh Fs (Ds ++ [⟨d, b, 0⟩]) Hs ∧ L''.Perm L' := by
 classical
 have hf : findS d (mapDi Ds 0) 0 = none := findD_none Ds 0 0 (by rw [o.D]; exact hd)
 rw [show putMS d (.pointer (some ⟨b, 0, none⟩)) Ds.length (mapDi Ds 0) = mapDi (Ds ++ [⟨d, b, 0⟩]) 0 by rw [putMS, hf, mapDi_app, Nat.zero_add]; rfl, show putCS d Ds.length (mapDi Ds 0) = (Ds ++ [(⟨d, b, 0⟩ : DB)]).length by rw [putCS, hf, List.length_append]; rfl] at hL
 refine ⟨_, ⟨rfl, o.vh, o.fs, o.hs, o.F, ?_, o.H⟩, hL.trans ?_⟩
 ·show _ = s.D ++ [(d, 0)]
  rw [List.map_append, o.D]
  rfl
 ·refine List.perm_iff_count.2 fun x => ?_
  simp only [fsC, DB.own, List.flatMap_append, List.flatMap_cons, List.flatMap_nil, List.count_append, List.count_cons, List.count_nil]
  omega
/-- A new file. -/
theorem VOpen.newF (o : VOpen bf s L mf md vh Lh Fs Ds Hs) {d x : List UInt8} (hd : s.file d = none) (b by' : Nat) {v : Value} {Lv L'' : List (Nat × Obj)} (hv : OwnSl 5 1 v x.length (u8s x) Lv)
  (hL : L''.Perm ((b, blk 67 [str d, v]) :: (bf, blk 61 (fsC mf md vh { s with by_ := by' })) :: (mf, mapS (putMS d (.pointer (some ⟨b, 0, none⟩)) Fs.length (mapF Fs 0)) (putCS d Fs.length (mapF Fs 0))) :: (md, mapS (mapDi Ds 0) Ds.length) :: (Lv ++ (Lh ++ (Fs.flatMap FB.own ++ (Ds.flatMap DB.own ++ Hs.flatMap HB.own)))))) :
  ∃ L', VOpen bf { s with F := s.F ++ [(d, x)], by_ := by' } L' mf md vh Lh (Fs ++ [⟨d, b, v, x, Lv⟩]) Ds Hs ∧ L''.Perm L' := by
 classical
 have hf : findS d (mapF Fs 0) 0 = none := findF_none Fs 0 0 (by rw [o.F]; exact hd)
 rw [show putMS d (.pointer (some ⟨b, 0, none⟩)) Fs.length (mapF Fs 0) = mapF (Fs ++ [⟨d, b, v, x, Lv⟩]) 0 by rw [putMS, hf, mapF_app, Nat.zero_add]; rfl, show putCS d Fs.length (mapF Fs 0) = (Fs ++ [(⟨d, b, v, x, Lv⟩ : FB)]).length by rw [putCS, hf, List.length_append]; rfl] at hL
 refine ⟨_, ⟨rfl, o.vh, ?_, ?_, ?_, o.D, o.H⟩, hL.trans ?_⟩
 ·intro c hc
  rcases List.mem_append.1 hc with h | h
  ·exact o.fs c h
  ·rw [List.mem_singleton.1 h]
   exact hv
 ·intro h hm
  have hobt := o.hs h hm
  obtain ⟨r, e1, e2⟩ := hobt
  exact ⟨r, by rw [List.getElem?_append_left (List.getElem?_eq_some_iff.1 e1).1]; exact e1, e2⟩
 ·show _ = s.F ++ [(d, x)]
  rw [List.map_append, o.F]
  rfl
 ·refine List.perm_iff_count.2 fun x => ?_
  simp only [fsC, FB.own, List.flatMap_append, List.flatMap_cons, List.flatMap_nil, List.count_append, List.count_cons, List.count_nil]
  omega
end
end Go.Gx
/-! Vs11 -/
namespace Go.Gx
open Go.Proofs Go.Proofs.Tryz
set_option maxRecDepth 100000
theorem bld_com (d : List UInt8) (w : World) : (Instr.build 65 #[(0, str d)]).run Tryz.prog w = .ok (.agg #[str d]) w := by kernel_rfl
theorem bld_dir (d : List UInt8) (w : World) : (Instr.build 74 #[(0, .agg #[str d])]).run Tryz.prog w = .ok (.agg #[str d, .int .i64 ((0 : Nat) : Int)]) w := by kernel_rfl
theorem bld_file (d : List UInt8) (a : Option Addr) (n c : Nat) (w : World) : (Instr.build 67 #[(0, .agg #[str d]), (1, .slice a n c)]).run Tryz.prog w = .ok (.agg #[str d, .slice a n c]) w := by kernel_rfl
section
variable {α : Type}
theorem perm_add1 {x a b c : α} {R : List α} : (x :: a :: b :: c :: R).Perm (a :: b :: c :: x :: R) := by
 classical
 exact List.perm_iff_count.2 fun y => by
  simp only [List.count_append, List.count_cons, List.count_nil]
  omega
theorem perm_add2 {x a b c e : α} {R : List α} : (a :: x :: e :: b :: c :: R).Perm (e :: (x :: b :: c :: a :: R)) := by
 classical
 exact List.perm_iff_count.2 fun y => by
  simp only [List.count_append, List.count_cons, List.count_nil]
  omega
theorem perm_add3 {a b c : α} {l R : List α} : (l ++ (a :: b :: c :: R)).Perm (a :: b :: c :: (l ++ R)) := by
 classical
 exact List.perm_iff_count.2 fun y => by
  simp only [List.count_append, List.count_cons, List.count_nil]
  omega
theorem perm_add4 {m x e b d : α} {l R : List α} : (m :: x :: e :: b :: (l ++ (d :: R))).Perm (e :: (x :: b :: m :: d :: (l ++ R))) := by
 classical
 exact List.perm_iff_count.2 fun y => by
  simp only [List.count_append, List.count_cons, List.count_nil]
  omega
end
/-- 'VRep', with the files' blocks. -/
def VRepF (bf : Nat) (s : VS) (L : List (Nat × Obj)) (bs : List Nat) : Prop := ∃ mf md vh Lh Fs Ds Hs, VOpen bf s L mf md vh Lh Fs Ds Hs ∧ Fs.map (·.b) = bs
theorem VRepF.rep {bf : Nat} {s : VS} {L : List (Nat × Obj)} {bs : List Nat} (h : VRepF bf s L bs) : VRep bf s L := by
 obtain ⟨mf, md, vh, Lh, Fs, Ds, Hs, o, _⟩ := h
 exact ⟨mf, md, vh, Lh, Fs, Ds, Hs, o⟩
section
variable {bf : Nat} {s : VS} {L : List (Nat × Obj)} {bs : List Nat} {w0 : World}
set_option maxHeartbeats 2000000 in
theorem addDir_spec (hR : VRepF bf s L bs) (hn : ∀ e ∈ s.D, e.2 ≤ 1000000) (hg : Gl w0) (h0 : 0 ∉ L.map (·.1)) (hw : Step (L.map (·.1)) L w0 w0) {d : List UInt8} {av : Option Addr} {nv cv : Nat} (hdl : d.length ≤ 9223372036854775807) {j : Nat} (hj : s.dir (splitR d).1 = some j) (hnew : (s.bump j).dir d = none) : Calls Tryz.prog 44 #[.pointer (some ⟨bf, 0, none⟩), .agg (itC d true (.slice av nv cv)).toArray] w0 fun e w' => ∃ L', e = .returned (.tuple #[]) ∧ VRepF bf (s.addDir d) L' bs ∧ Step (L.map (·.1)) L' w0 w' := by
 obtain ⟨mf, md, vh, Lh, Fs, Ds, Hs, o, rfl⟩ := hR
 have hs : Step (L.map (·.1)) L w0 w0 := hw
 have hobt := o.dir_at hj
 obtain ⟨r, hr, hrp, hv⟩ := hobt
 have hrn : r.n ≤ 1000000 := hn (r.p, r.n) (by rw [← o.D]; exact List.mem_map.2 ⟨r, List.mem_of_getElem? hr, rfl⟩)
 have hvD := o.lookD (splitR d).1
 rw [hv] at hvD
 have hop := o.openD hr
 have hobt := o.setD hr
 obtain ⟨L1, o1, hset⟩ := hobt
 rw [show s.addDir d = { s.bump j with D := (s.bump j).D ++ [(d, 0)] } by unfold VS.addDir; rw [hj]]
 have hmd : w0.heap[md]? = some (mapS (mapDi Ds 0) Ds.length) := o.md_ hs.has
 have hobt : ∃ S, L.map (·.1) = S := ⟨_, rfl⟩
 obtain ⟨S, hS⟩ := hobt
 rw [hS] at hs h0 ⊢
 refine calls (n := 63) Tryz.func44 rfl rfl rfl ?_
 refine cQ <| cR ?_
 refine WL.box (cs := itC d true (.slice av nv cv)) rfl rfl rfl hs (fun b3 w hs => ?_)
 refine wZ <| cQ <| cR <| wV rfl (run_field (o' := 0) underlying56 rfl ty9 rfl rfl rfl) <| wV rfl (run_load1 ty9 rfl (hs.c0 (v := str d) rfl)) ?_
 refine wE rfl (run_call en70 rfl rfl) (splitP_spec _ (hg.stepS hs h0) hdl) ?_
 rintro e w ⟨rfl, hq⟩
 refine ⟨_, rfl, ?_⟩
 replace hs := hs.callE hq
 refine wm rfl <| wx rfl rfl rfl <| wx rfl rfl rfl <| wx rfl rfl rfl <| wa rfl <| wa rfl <| wa rfl <| wZ ?_
 have hs2 := hs.perm ((hop.cons _).trans perm_add1)
 clear hs
 have hs := hs2
 refine cQ <| cR <| wm rfl <| wn rfl rfl <| wV rfl (run_field (o' := 1) underlying61 rfl ty58 rfl rfl rfl) <| wV rfl (run_load1 ty58 rfl (hs.c1 (v := .map (some md)) rfl)) <| wm rfl <| wV rfl (run_lookupSE underlying58 underlying9 (zDir _) (hvD) rfl rfl (hs.at [_, _])) <| wn rfl rfl <| wV rfl (run_field (o' := 1) underlying74 rfl ty3 rfl rfl rfl) <| wV rfl (run_load1 ty3 rfl (hs.c0 (v := .int .i64 (r.n : Nat)) rfl)) <| wV rfl (run_add (c := ((r.n + 1 : Nat) : Int)) rfl rfl (by omega) (by omega)) <| wn rfl rfl <| wV rfl (run_field (o' := 1) underlying74 rfl ty3 rfl rfl rfl) ?_
 refine WL.store1 ty3 rfl rfl (rfl) hs (by first | (simp; done) | omega | (simp only [List.length_append, List.length_replicate, List.length_cons, List.length_nil, List.length_set]; omega) | (simp [Ent.cells, u8s]; done) | exact Nat.le_of_ble_eq_true rfl) (fun w hs => ?_)
 refine wZ ?_
 have hs3 := hs.perm (perm_add1.symm.trans (hset.cons _))
 rw [o1.L] at hs3
 clear hs hs2
 have hs := hs3
 refine cQ <| cQ <| cR <| wV rfl (run_field (o' := 1) underlying56 rfl ty4 rfl rfl rfl) <| wV rfl (run_load1 ty4 rfl (hs.c0 (v := .bool true) rfl)) <| wZ ?_
 refine cC rfl (fun h => ?_) (fun h => ?_)
 ·refine cQ ?_
  refine CW.any (A := fun w => w.heap[b3]? = some (blk 56 (itC d true (.slice av nv cv))) ∧ w.heap[bf]? = some (blk 61 (fsC mf md vh (s.bump j)))) (C := fun w => w.heap[b3]? = some (blk 56 (itC d true (.slice av nv cv))) ∧ w.heap[bf]? = some (blk 61 (fsC mf md vh (s.bump j)))) 1000000 12 mixedP rfl ?_
  replace hs := hs.drew
  refine AL.val 0 rfl (by kernel_rfl) rfl (fun w hs => run_move) ?_
  refine AL.val 1 rfl (by kernel_rfl) rfl (fun w hs => run_nilCheck rfl) ?_
  refine AL.val 2 rfl (by kernel_rfl) rfl (fun w hs => run_field (o' := 1) underlying61 rfl ty58 rfl rfl rfl) ?_
  refine AL.val 3 rfl (by kernel_rfl) rfl (fun w hs => run_load1 ty58 rfl ((by rw [cell_blk hs.2]; rfl))) ?_
  refine AL.val 4 rfl (by kernel_rfl) rfl (fun w hs => run_field (o' := 0) underlying56 rfl ty9 rfl rfl rfl) ?_
  refine AL.val 5 rfl (by kernel_rfl) rfl (fun w hs => run_load1 ty9 rfl ((by rw [cell_blk hs.1]; rfl))) ?_
  refine AL.val 6 rfl (by kernel_rfl) rfl (fun w hs => run_field (o' := 0) underlying56 rfl ty9 rfl rfl rfl) ?_
  refine AL.val 7 rfl (by kernel_rfl) rfl (fun w hs => run_load1 ty9 rfl ((by rw [cell_blk hs.1]; rfl))) ?_
  refine AL.val 8 rfl (by kernel_rfl) rfl (fun w hs => run_build rfl (bld_com d _)) ?_
  refine AL.val 9 rfl (by kernel_rfl) rfl (fun w hs => run_build rfl (bld_dir d _)) ?_
  refine AL.one 10 (by kernel_rfl) rfl (by first | exact ⟨hs.hd, hs.tail.hd⟩ | exact ⟨hs.tail.hd, hs.tail.tail.hd⟩ | exact ⟨hs.tail.tail.hd, hs.tail.tail.tail.hd⟩) (by first | exact ⟨hs.hd, hs.tail.hd⟩ | exact ⟨hs.tail.hd, hs.tail.tail.hd⟩ | exact ⟨hs.tail.tail.hd, hs.tail.tail.tail.hd⟩) ?_
  refine WL.box (cs := [str d, .int .i64 ((0 : Nat) : Int)]) rfl rfl rfl hs (fun b38 w hs => ?_)
  refine wZ ?_
  refine ⟨rfl, ?_⟩
  refine AL.one 11 (by kernel_rfl) rfl (by first | exact ⟨hs.hd, hs.tail.hd⟩ | exact ⟨hs.tail.hd, hs.tail.tail.hd⟩ | exact ⟨hs.tail.tail.hd, hs.tail.tail.tail.hd⟩) (by first | exact ⟨hs.hd, hs.tail.hd⟩ | exact ⟨hs.tail.hd, hs.tail.tail.hd⟩ | exact ⟨hs.tail.tail.hd, hs.tail.tail.tail.hd⟩) ?_
  refine WL.mapPutS underlying58 underlying9 rfl rfl rfl (hs.front [_, _, _, _]) (fun w hs => ?_)
  refine wZ ?_
  refine ⟨rfl, ?_⟩
  refine AL.end (by kernel_rfl) (by first | exact ⟨hs.hd, hs.tail.hd⟩ | exact ⟨hs.tail.hd, hs.tail.tail.hd⟩ | exact ⟨hs.tail.tail.hd, hs.tail.tail.tail.hd⟩) (by first | exact ⟨hs.hd, hs.tail.hd⟩ | exact ⟨hs.tail.hd, hs.tail.tail.hd⟩ | exact ⟨hs.tail.tail.hd, hs.tail.tail.tail.hd⟩) ?_
  have hs4 := (hs.perm perm_add2).tail
  have hobt := o1.newD hnew b38 (List.Perm.refl _)
  obtain ⟨L', hL', hp⟩ := hobt
  refine CW.ret ?_
  refine fin_ret0 rfl ?_
  exact ⟨L', rfl, ⟨_, _, _, _, _, _, _, hL', rfl⟩, hs4.perm hp⟩
 ·cases h
set_option maxHeartbeats 2000000 in
theorem addFile_spec (hR : VRepF bf s L bs) (hn : ∀ e ∈ s.D, e.2 ≤ 1000000) (hby : s.by_ ≤ 1000000000000) (hg : Gl w0) (h0 : 0 ∉ L.map (·.1)) (hw : Step (L.map (·.1)) L w0 w0) {d x : List UInt8} (hdl : d.length ≤ 9223372036854775807) (hxl : x.length ≤ 1000000000000) {v : Value} (hv0 : ∀ {L' w}, Step (L.map (·.1)) L' w0 w → Sl w 1 v x.length (u8s x)) {j : Nat} (hj : s.dir (splitR d).1 = some j) (hnew : (s.bump j).file d = none) : Calls Tryz.prog 44 #[.pointer (some ⟨bf, 0, none⟩), .agg (itC d false v).toArray] w0 fun e w' => ∃ L' b, e = .returned (.tuple #[]) ∧ VRepF bf (s.addFile d x) L' (bs ++ [b]) ∧ Step (L.map (·.1)) L' w0 w' := by
 obtain ⟨mf, md, vh, Lh, Fs, Ds, Hs, o, rfl⟩ := hR
 have hs : Step (L.map (·.1)) L w0 w0 := hw
 have hobt := o.dir_at hj
 obtain ⟨r, hr, hrp, hv⟩ := hobt
 have hrn : r.n ≤ 1000000 := hn (r.p, r.n) (by rw [← o.D]; exact List.mem_map.2 ⟨r, List.mem_of_getElem? hr, rfl⟩)
 have hvD := o.lookD (splitR d).1
 rw [hv] at hvD
 have hop := o.openD hr
 have hobt := o.setD hr
 obtain ⟨L1, o1, hset⟩ := hobt
 rw [show s.addFile d x = { s.bump j with F := s.F ++ [(d, x)], by_ := s.by_ + x.length } by unfold VS.addFile; rw [hj]]
 have hobt := (hv0 hs).form
 obtain ⟨av, cv, rfl⟩ := hobt
 have hobt : ∃ S, L.map (·.1) = S := ⟨_, rfl⟩
 obtain ⟨S, hS⟩ := hobt
 rw [hS] at hs h0 hv0 ⊢
 refine calls (n := 63) Tryz.func44 rfl rfl rfl ?_
 refine cQ <| cR ?_
 refine WL.box (cs := itC d false (.slice av x.length cv)) rfl rfl rfl hs (fun b3 w hs => ?_)
 refine wZ <| cQ <| cR <| wV rfl (run_field (o' := 0) underlying56 rfl ty9 rfl rfl rfl) <| wV rfl (run_load1 ty9 rfl (hs.c0 (v := str d) rfl)) ?_
 refine wE rfl (run_call en70 rfl rfl) (splitP_spec _ (hg.stepS hs h0) hdl) ?_
 rintro e w ⟨rfl, hq⟩
 refine ⟨_, rfl, ?_⟩
 replace hs := hs.callE hq
 refine wm rfl <| wx rfl rfl rfl <| wx rfl rfl rfl <| wx rfl rfl rfl <| wa rfl <| wa rfl <| wa rfl <| wZ ?_
 have hs2 := hs.perm ((hop.cons _).trans perm_add1)
 clear hs
 have hs := hs2
 refine cQ <| cR <| wm rfl <| wn rfl rfl <| wV rfl (run_field (o' := 1) underlying61 rfl ty58 rfl rfl rfl) <| wV rfl (run_load1 ty58 rfl (hs.c1 (v := .map (some md)) rfl)) <| wm rfl <| wV rfl (run_lookupSE underlying58 underlying9 (zDir _) (hvD) rfl rfl (hs.at [_, _])) <| wn rfl rfl <| wV rfl (run_field (o' := 1) underlying74 rfl ty3 rfl rfl rfl) <| wV rfl (run_load1 ty3 rfl (hs.c0 (v := .int .i64 (r.n : Nat)) rfl)) <| wV rfl (run_add (c := ((r.n + 1 : Nat) : Int)) rfl rfl (by omega) (by omega)) <| wn rfl rfl <| wV rfl (run_field (o' := 1) underlying74 rfl ty3 rfl rfl rfl) ?_
 refine WL.store1 ty3 rfl rfl (rfl) hs (by first | (simp; done) | omega | (simp only [List.length_append, List.length_replicate, List.length_cons, List.length_nil, List.length_set]; omega) | (simp [Ent.cells, u8s]; done) | exact Nat.le_of_ble_eq_true rfl) (fun w hs => ?_)
 refine wZ ?_
 have hs3 := hs.perm (perm_add1.symm.trans (hset.cons _))
 rw [o1.L] at hs3
 clear hs hs2
 have hs := hs3
 refine cQ <| cQ <| cR <| wV rfl (run_field (o' := 1) underlying56 rfl ty4 rfl rfl rfl) <| wV rfl (run_load1 ty4 rfl (hs.c0 (v := .bool false) rfl)) <| wZ ?_
 refine cC rfl (fun h => ?_) (fun h => ?_)
 ·cases h
 repeat (first | refine cQ ?_ | refine cK ?_)
 refine CW.any (A := fun w => (w.heap[b3]? = some (blk 56 (itC d false (.slice av x.length cv))) ∧ w.heap[bf]? = some (blk 61 (fsC mf md vh (s.bump j)))) ∧ Sl w 1 (.slice av x.length cv) x.length (u8s x)) (C := fun w => (w.heap[b3]? = some (blk 56 (itC d false (.slice av x.length cv))) ∧ w.heap[bf]? = some (blk 61 (fsC mf md vh (s.bump j)))) ∧ Sl w 1 (.slice av x.length cv) x.length (u8s x)) 1000000 15 mixedP rfl ?_
 replace hs := hs.drew
 refine AL.val 0 rfl (by kernel_rfl) rfl (fun w hs => run_move) ?_
 refine AL.val 1 rfl (by kernel_rfl) rfl (fun w hs => run_nilCheck rfl) ?_
 refine AL.val 2 rfl (by kernel_rfl) rfl (fun w hs => run_field (o' := 0) underlying61 rfl ty57 rfl rfl rfl) ?_
 refine AL.val 3 rfl (by kernel_rfl) rfl (fun w hs => run_load1 ty57 rfl ((by rw [cell_blk hs.1.2]; rfl))) ?_
 refine AL.val 4 rfl (by kernel_rfl) rfl (fun w hs => run_field (o' := 0) underlying56 rfl ty9 rfl rfl rfl) ?_
 refine AL.val 5 rfl (by kernel_rfl) rfl (fun w hs => run_load1 ty9 rfl ((by rw [cell_blk hs.1.1]; rfl))) ?_
 refine AL.val 6 rfl (by kernel_rfl) rfl (fun w hs => run_field (o' := 0) underlying56 rfl ty9 rfl rfl rfl) ?_
 refine AL.val 7 rfl (by kernel_rfl) rfl (fun w hs => run_load1 ty9 rfl ((by rw [cell_blk hs.1.1]; rfl))) ?_
 refine AL.val 8 rfl (by kernel_rfl) rfl (fun w hs => run_build rfl (bld_com d _)) ?_
 refine AL.val 9 rfl (by kernel_rfl) rfl (fun w hs => run_field (o' := 2) underlying56 rfl ty38 rfl rfl rfl) ?_
 refine AL.val 10 rfl (by kernel_rfl) rfl (fun w hs => run_load1 ty38 rfl ((by rw [cell_blk hs.1.1]; rfl))) ?_
 refine AL.one 11 (by kernel_rfl) rfl (by first | exact ⟨⟨hs.hd, hs.tail.hd⟩, hv0 hs⟩ | exact ⟨⟨hs.tail.hd, hs.tail.tail.hd⟩, hv0 hs⟩ | exact ⟨⟨hs.tail.tail.hd, hs.tail.tail.tail.hd⟩, hv0 hs⟩) (by first | exact ⟨⟨hs.hd, hs.tail.hd⟩, hv0 hs⟩ | exact ⟨⟨hs.tail.hd, hs.tail.tail.hd⟩, hv0 hs⟩ | exact ⟨⟨hs.tail.tail.hd, hs.tail.tail.tail.hd⟩, hv0 hs⟩) ?_
 refine wE rfl (run_call en20 rfl rfl) (clone_spec _ (hv0 hs) (by omega)) ?_
 rintro e w ⟨v', Lv, rfl, hu, hq⟩
 refine ⟨_, rfl, ?_⟩
 obtain ⟨au, cu, rfl⟩ := hu.form
 replace hs := (hs.call0 hq).perm perm_add3
 refine wZ ?_
 refine ⟨rfl, ?_⟩
 refine AL.val 12 rfl (by kernel_rfl) rfl (fun w hs => run_build rfl (bld_file d au x.length cu _)) ?_
 refine AL.one 13 (by kernel_rfl) rfl (by first | exact ⟨⟨hs.hd, hs.tail.hd⟩, hv0 hs⟩ | exact ⟨⟨hs.tail.hd, hs.tail.tail.hd⟩, hv0 hs⟩ | exact ⟨⟨hs.tail.tail.hd, hs.tail.tail.tail.hd⟩, hv0 hs⟩) (by first | exact ⟨⟨hs.hd, hs.tail.hd⟩, hv0 hs⟩ | exact ⟨⟨hs.tail.hd, hs.tail.tail.hd⟩, hv0 hs⟩ | exact ⟨⟨hs.tail.tail.hd, hs.tail.tail.tail.hd⟩, hv0 hs⟩) ?_
 refine WL.box (cs := [str d, .slice au x.length cu]) rfl rfl rfl hs (fun b52 w hs => ?_)
 refine wZ ?_
 refine ⟨rfl, ?_⟩
 refine AL.one 14 (by kernel_rfl) rfl (by first | exact ⟨⟨hs.hd, hs.tail.hd⟩, hv0 hs⟩ | exact ⟨⟨hs.tail.hd, hs.tail.tail.hd⟩, hv0 hs⟩ | exact ⟨⟨hs.tail.tail.hd, hs.tail.tail.tail.hd⟩, hv0 hs⟩) (by first | exact ⟨⟨hs.hd, hs.tail.hd⟩, hv0 hs⟩ | exact ⟨⟨hs.tail.hd, hs.tail.tail.hd⟩, hv0 hs⟩ | exact ⟨⟨hs.tail.tail.hd, hs.tail.tail.tail.hd⟩, hv0 hs⟩) ?_
 refine WL.mapPutS underlying57 underlying9 rfl rfl rfl (hs.front [_, _, _]) (fun w hs => ?_)
 refine wZ ?_
 refine ⟨rfl, ?_⟩
 refine AL.end (by kernel_rfl) (by first | exact ⟨⟨hs.hd, hs.tail.hd⟩, hv0 hs⟩ | exact ⟨⟨hs.tail.hd, hs.tail.tail.hd⟩, hv0 hs⟩ | exact ⟨⟨hs.tail.tail.hd, hs.tail.tail.tail.hd⟩, hv0 hs⟩) (by first | exact ⟨⟨hs.hd, hs.tail.hd⟩, hv0 hs⟩ | exact ⟨⟨hs.tail.hd, hs.tail.tail.hd⟩, hv0 hs⟩ | exact ⟨⟨hs.tail.tail.hd, hs.tail.tail.tail.hd⟩, hv0 hs⟩) ?_
 have hobt : ∃ by1, s.by_ + x.length = by1 := ⟨_, rfl⟩
 obtain ⟨by1, hby1⟩ := hobt
 rw [hby1]
 refine CW.quietT (l1 := [_, _, _, _, _, _, _, _, _, _]) (l2 := [_]) 10 rfl mixedP rfl (by kernel_rfl) hs ?_
 refine qm rfl <| qn rfl rfl <| qV rfl (fun w hs => run_field (o' := 6) underlying61 rfl ty3 rfl rfl rfl) <| qV rfl (fun w hs => run_load1 ty3 rfl (hs.c3 (v := .int .i64 (s.by_ : Nat)) rfl)) <| qV rfl (fun w hs => run_field (o' := 2) underlying56 rfl ty38 rfl rfl rfl) <| qV rfl (fun w hs => run_load1 ty38 rfl (hs.c2 (v := .slice av x.length cv) rfl)) <| qV rfl (fun w hs => run_lenSl underlying38 rfl) <| qV rfl (fun w hs => run_add (c := (by1 : Nat)) rfl rfl (by omega) (by omega)) <| qn rfl rfl <| qV rfl (fun w hs => run_field (o' := 6) underlying61 rfl ty3 rfl rfl rfl) ?_
 refine QL.nil (fun w hs => ?_)
 refine WL.store1_3 ty3 rfl rfl (rfl) hs (by first | (simp; done) | omega | (simp only [List.length_append, List.length_replicate, List.length_cons, List.length_nil, List.length_set]; omega) | (simp [Ent.cells, u8s]; done) | exact Nat.le_of_ble_eq_true rfl) (fun w hs => ?_)
 refine wZ ?_
 replace hs : Step S ((mf, mapS (putMS d (.pointer (some ⟨b52, 0, none⟩)) Fs.length (mapF Fs 0)) (putCS d Fs.length (mapF Fs 0))) :: (b52, blk 67 [str d, .slice au x.length cu]) :: (b3, blk 56 (itC d false (.slice av x.length cv))) :: (bf, blk 61 (fsC mf md vh { s.bump j with by_ := by1 })) :: (Lv ++ ((md, mapS (mapDi (Ds.set j { p := r.p, b := r.b, n := r.n + 1 }) 0) (Ds.set j { p := r.p, b := r.b, n := r.n + 1 }).length) :: (Lh ++ (Fs.flatMap FB.own ++ ((Ds.set j { p := r.p, b := r.b, n := r.n + 1 }).flatMap DB.own ++ Hs.flatMap HB.own)))))) w0 w := hs
 have hs4 := (hs.perm perm_add4).tail
 have hobt := o1.newF hnew b52 by1 hu (List.Perm.refl _)
 obtain ⟨L', hL', hp⟩ := hobt
 refine fin_end0 rfl ?_
 exact ⟨L', b52, rfl, ⟨_, _, _, _, _, _, _, hL', by rw [List.map_append]; rfl⟩, hs4.perm hp⟩
end
end Go.Gx
/-! Vs12 -/
namespace Go.Gx
open Go.Proofs Go.Proofs.Tryz
set_option maxRecDepth 100000
def VS.below (s : VS) (p : List UInt8) : Nat := match s.dir p with
 | none => 0
 | some j => ((s.D[j]?).map (·.2)).getD 0
/-- Where a new path begins. -/
def firstL (p : List UInt8) (miss : List (List UInt8)) : List UInt8 := (miss.head?).getD p
def VS.mayO (s : VS) (p : List UInt8) (x : Option Nat) (mode : Int) (miss : List (List UInt8)) : Int :=
 if (s.dir p).isSome then 92 else if x = none ∧ mode = 0 then 91 else if x = none ∧ (s.qf < (s.items : Int) + miss.length + 1 ∨ 1024 ≤ s.below (splitR (firstL p miss)).1) then 97 else if s.qo ≤ (s.op : Int) then 98 else 0
section
variable {bf mf md : Nat} {s : VS} {L Lh : List (Nat × Obj)} {vh : Value} {Fs : List FB} {Ds : List DB} {Hs : List (Option HB)} {w0 : World}
theorem VOpen.dat (o : VOpen bf s L mf md vh Lh Fs Ds Hs) {w : World} (hw : ∀ p ∈ L, w.heap[p.1]? = some p.2) {i : Nat} {r : DB} (hi : Ds[i]? = some r) : At w r.b 0 [str r.p, .int .i64 (r.n : Nat)] := by
 have hm : (r.b, blk 74 [str r.p, .int .i64 (r.n : Nat)]) ∈ Ds.flatMap DB.own := flat_mem hi (by simp [DB.own])
 exact At.of_blk (hw (r.b, blk 74 [str r.p, .int .i64 (r.n : Nat)]) (by rw [o.L]; simp only [List.mem_cons, List.mem_append]; exact .inr (.inr (.inr (.inr (.inr (.inl hm)))))))
set_option maxHeartbeats 4000000 in
theorem mayO_spec (o : VOpen bf s L mf md vh Lh Fs Ds Hs) (ok : s.Ok) (hg : Gl w0) (hw : ∀ p ∈ L, w0.heap[p.1]? = some p.2) {p : List UInt8} {x : Option Nat} {mode : Int} {miss : List (List UInt8)} {vm : Value} (hm : Sl w0 1 vm miss.length (strs miss)) (hml : miss.length ≤ 100000) (hfl : (firstL p miss).length ≤ 9223372036854775807) (hx : ∀ i, x = some i → i < Fs.length) (hup : x = none → (s.dir (splitR (firstL p miss)).1).isSome) : Calls Tryz.prog 47 #[.pointer (some ⟨bf, 0, none⟩), str p, fVal Fs x, .int .i64 mode, vm] w0 (Ret0 (.int .i64 (s.mayO p x mode miss)) w0) := by
 have hs : Step [] [] w0 w0 := Step.refl w0
 have hat := fun {w} hw => o.at (w := w) hw
 have hlw : ∀ {L' w}, Step [] L' w0 w → ∀ p ∈ L, w.heap[p.1]? = some p.2 := fun hs p hp => hs.old (hw p hp) (by simp)
 have hobt := hm.form
 obtain ⟨am, cm, rfl⟩ := hobt
 have hvD := o.lookD p
 have hqo := ok.qo
 have hqf := ok.qf
 have hop := ok.op
 by_cases hd : (s.dir p).isSome
 ·have hobt := Option.isSome_iff_exists.1 hd
  obtain ⟨j, hj⟩ := hobt
  have hobt := o.dir_at hj
  obtain ⟨r, _, _, hv⟩ := hobt
  rw [hv] at hvD
  rw [show s.mayO p x mode miss = 92 by unfold VS.mayO; rw [if_pos hd]]
  refine calls (n := 79) Tryz.func47 rfl rfl rfl ?_
  refine cQ <| cR <| wa rfl <| wZ ?_
  repeat (first | refine cQ ?_ | refine CW.block ?_)
  refine cR <| wm rfl <| wn rfl rfl <| wV rfl (run_field (o' := 1) underlying61 rfl ty58 rfl rfl rfl) <| wV rfl (run_load1 ty58 rfl ((hat (hlw hs)).cell (j := 1) rfl)) <| wm rfl <| wV rfl (run_lookupSE underlying58 underlying9 (zDir _) (hvD) rfl rfl (o.md_ (hlw hs))) <| wV rfl (run_ptrNilNe underlying72 rfl rfl) <| wa rfl <| wZ ?_
  refine cC rfl (fun h => ?_) (fun h => ?_)
  ·refine cQ <| cR <| wa rfl <| wZ ?_
   refine CW.ret ?_
   refine fin_ret1 rfl ?_
   exact ⟨rfl, hs⟩
  ·cases h
 have hdn : s.dir p = none := by
  cases h : s.dir p with
  | none => rfl
  | some j => rw [h] at hd; exact absurd rfl hd
 rw [hdn] at hvD
 cases x with
 | some i =>
  have hil := hx i rfl
  have hfv : fVal Fs (some i) = .pointer (some ⟨(Fs[i]'hil).b, 0, none⟩) := by simp [fVal, hil]
  rw [hfv]
  rw [show s.mayO p (some i) mode miss = if s.qo ≤ (s.op : Int) then 98 else 0 by unfold VS.mayO; rw [if_neg hd, if_neg (by simp), if_neg (by simp)]]
  have hobt : ∃ res : Int, (if s.qo ≤ (s.op : Int) then (98 : Int) else 0) = res := ⟨_, rfl⟩
  obtain ⟨res, hfin⟩ := hobt
  rw [hfin]
  refine calls (n := 79) Tryz.func47 rfl rfl rfl ?_
  refine cQ <| cR <| wa rfl <| wZ ?_
  repeat (first | refine cQ ?_ | refine CW.block ?_)
  refine cR <| wm rfl <| wn rfl rfl <| wV rfl (run_field (o' := 1) underlying61 rfl ty58 rfl rfl rfl) <| wV rfl (run_load1 ty58 rfl ((hat (hlw hs)).cell (j := 1) rfl)) <| wm rfl <| wV rfl (run_lookupSE underlying58 underlying9 (zDir _) (hvD) rfl rfl (o.md_ (hlw hs))) <| wV rfl (run_nilNe underlying72 rfl rfl) <| wa rfl <| wZ ?_
  refine cC rfl (fun h => ?_) (fun h => ?_)
  ·cases h
  refine cQ <| cR <| wm rfl <| wV rfl (run_ptrNil underlying62 rfl rfl) <| wm rfl <| WL.no rfl rfl rfl (.inl rfl) <| WL.no rfl rfl rfl (.inl rfl) <| wV rfl (run_pickF rfl) <| wa rfl <| wZ ?_
  refine cC rfl (fun h => ?_) (fun h => ?_)
  ·cases h
  repeat (first | refine cQ ?_ | refine cK ?_)
  refine cR <| wm rfl <| wV rfl (run_ptrNil underlying62 rfl rfl) <| wZ ?_
  refine cC rfl (fun h => ?_) (fun h => ?_)
  ·cases h
  by_cases ho : s.qo ≤ (s.op : Int)
  ·have e : (98 : Int) = res := by rw [← hfin, if_pos ho]
   repeat (first | refine cQ ?_ | refine cK ?_)
   refine CW.quiet mixedP (by kernel_rfl) hs ?_
   refine qm rfl <| qn rfl rfl <| qV rfl (fun w hs => run_field (o' := 7) underlying61 rfl ty3 rfl rfl rfl) <| qV rfl (fun w hs => run_load1 ty3 rfl ((hat (hlw hs)).cell (j := 7) rfl)) <| qm rfl <| qn rfl rfl <| qV rfl (fun w hs => run_field (o' := 3) underlying61 rfl ty24 rfl rfl rfl) <| qV rfl (fun w hs => run_field (o' := 2) underlying24 rfl ty3 rfl rfl rfl) <| qV rfl (fun w hs => run_load1 ty3 rfl ((hat (hlw hs)).cell (j := 5) rfl)) <| qV rfl (fun w hs => run_bT (run_geq rfl rfl) (by omega)) ?_
   refine QL.nil (fun w hs => ?_)
   refine cC rfl (fun h => ?_) (fun h => ?_)
   ·refine cQ <| cR <| wa rfl <| wZ ?_
    refine CW.ret ?_
    refine fin_ret1 rfl ?_
    exact ⟨congrArg (fun b => Ending.returned (.int .i64 b)) e, hs⟩
   ·cases h
  ·have e : (0 : Int) = res := by rw [← hfin, if_neg ho]
   repeat (first | refine cQ ?_ | refine cK ?_)
   refine CW.quiet mixedP (by kernel_rfl) hs ?_
   refine qm rfl <| qn rfl rfl <| qV rfl (fun w hs => run_field (o' := 7) underlying61 rfl ty3 rfl rfl rfl) <| qV rfl (fun w hs => run_load1 ty3 rfl ((hat (hlw hs)).cell (j := 7) rfl)) <| qm rfl <| qn rfl rfl <| qV rfl (fun w hs => run_field (o' := 3) underlying61 rfl ty24 rfl rfl rfl) <| qV rfl (fun w hs => run_field (o' := 2) underlying24 rfl ty3 rfl rfl rfl) <| qV rfl (fun w hs => run_load1 ty3 rfl ((hat (hlw hs)).cell (j := 5) rfl)) <| qV rfl (fun w hs => run_bF (run_geq rfl rfl) (by omega)) ?_
   refine QL.nil (fun w hs => ?_)
   refine cC rfl (fun h => ?_) (fun h => ?_)
   ·cases h
   repeat (first | refine cQ ?_ | refine cK ?_)
   refine cR <| wa rfl <| wZ ?_
   refine CW.ret ?_
   refine fin_ret1 rfl ?_
   exact ⟨congrArg (fun b => Ending.returned (.int .i64 b)) e, hs⟩
 | none =>
  by_cases hm0 : mode = 0
  ·rw [show s.mayO p none mode miss = 91 by unfold VS.mayO; rw [if_neg hd, if_pos ⟨rfl, hm0⟩]]
   refine calls (n := 79) Tryz.func47 rfl rfl rfl ?_
   refine cQ <| cR <| wa rfl <| wZ ?_
   repeat (first | refine cQ ?_ | refine CW.block ?_)
   refine cR <| wm rfl <| wn rfl rfl <| wV rfl (run_field (o' := 1) underlying61 rfl ty58 rfl rfl rfl) <| wV rfl (run_load1 ty58 rfl ((hat (hlw hs)).cell (j := 1) rfl)) <| wm rfl <| wV rfl (run_lookupSE underlying58 underlying9 (zDir _) (hvD) rfl rfl (o.md_ (hlw hs))) <| wV rfl (run_nilNe underlying72 rfl rfl) <| wa rfl <| wZ ?_
   refine cC rfl (fun h => ?_) (fun h => ?_)
   ·cases h
   refine cQ <| cR <| wm rfl <| wV rfl (run_nilNil underlying62 rfl rfl) <| wm rfl <| WL.yes rfl rfl rfl <| wm rfl <| WL.yes rfl rfl rfl <| wV rfl (run_bT (run_eql rfl rfl) (by exact hm0)) <| wV rfl (run_pickT rfl) <| wa rfl <| wZ ?_
   refine cC rfl (fun h => ?_) (fun h => ?_)
   ·refine cQ <| cR <| wa rfl <| wZ ?_
    refine CW.ret ?_
    refine fin_ret1 rfl ?_
    exact ⟨rfl, hs⟩
   ·cases h
  have hup := hup rfl
  have hobt := Option.isSome_iff_exists.1 hup
  obtain ⟨j, hj⟩ := hobt
  have hobt := o.dir_at hj
  obtain ⟨r, hr, hrp, hv⟩ := hobt
  have hvU := o.lookD (splitR (firstL p miss)).1
  rw [hv] at hvU
  have hbel : s.below (splitR (firstL p miss)).1 = r.n := by
   unfold VS.below
   rw [hj]
   simp only
   rw [← o.D, List.getElem?_map, hr]
   rfl
  have hD : 0 < s.D.length := by
   rw [← o.D, List.length_map]
   have := (List.getElem?_eq_some_iff.1 hr).1
   omega
  have hitm := fun {w} hw => items_spec (w0 := w) o ok hD hw
  have hsp := fun {w} hg => splitP_spec (p := firstL p miss) w hg hfl
  have hmay : s.mayO p none mode miss = if s.qf < (s.items : Int) + miss.length + 1 ∨ 1024 ≤ r.n then 97 else if s.qo ≤ (s.op : Int) then 98 else 0 := by
   unfold VS.mayO
   rw [if_neg hd, if_neg (fun h => hm0 h.2), hbel]
   simp only [true_and]
  have hil : s.items ≤ 200000 := by
   have h1 := ok.f
   have h2 := ok.d
   unfold VS.items
   omega
  rw [hmay]
  clear hmay hup hbel
  have hobt : ∃ ml : Nat, miss.length = ml := ⟨_, rfl⟩
  obtain ⟨ml, eml⟩ := hobt
  have hobt : ∃ fst, firstL p miss = fst := ⟨_, rfl⟩
  obtain ⟨fst, efst⟩ := hobt
  rw [efst] at hsp hvU
  rw [eml] at hml
  simp only [eml]
  have hobt : ∃ res : Int, (if s.qf < (s.items : Int) + ml + 1 ∨ 1024 ≤ r.n then 97 else if s.qo ≤ (s.op : Int) then (98 : Int) else 0) = res := ⟨_, rfl⟩
  obtain ⟨res, hres⟩ := hobt
  rw [hres]
  cases miss with
  | nil =>
   replace efst : p = fst := efst
   subst efst
   replace eml : 0 = ml := eml
   refine calls (n := 79) Tryz.func47 rfl rfl rfl ?_
   refine cQ <| cR <| wa rfl <| wZ ?_
   repeat (first | refine cQ ?_ | refine CW.block ?_)
   refine cR <| wm rfl <| wn rfl rfl <| wV rfl (run_field (o' := 1) underlying61 rfl ty58 rfl rfl rfl) <| wV rfl (run_load1 ty58 rfl ((hat (hlw hs)).cell (j := 1) rfl)) <| wm rfl <| wV rfl (run_lookupSE underlying58 underlying9 (zDir _) (hvD) rfl rfl (o.md_ (hlw hs))) <| wV rfl (run_nilNe underlying72 rfl rfl) <| wa rfl <| wZ ?_
   refine cC rfl (fun h => ?_) (fun h => ?_)
   ·cases h
   refine cQ <| cR <| wm rfl <| wV rfl (run_nilNil underlying62 rfl rfl) <| wm rfl <| WL.yes rfl rfl rfl <| wm rfl <| WL.yes rfl rfl rfl <| wV rfl (run_bF (run_eql rfl rfl) (by exact hm0)) <| wV rfl (run_pickT rfl) <| wa rfl <| wZ ?_
   refine cC rfl (fun h => ?_) (fun h => ?_)
   ·cases h
   repeat (first | refine cQ ?_ | refine cK ?_)
   refine cR <| wm rfl <| wV rfl (run_nilNil underlying62 rfl rfl) <| wZ ?_
   refine cC rfl (fun h => ?_) (fun h => ?_)
   ·refine cQ <| cR <| wm rfl <| wa rfl <| wZ <| cQ <| cQ <| cR <| wm rfl <| wV rfl (run_lenSl underlying88 rfl) <| wV rfl (run_bF (run_gtr rfl rfl) (by omega)) <| wZ ?_
    refine cC rfl (fun h => ?_) (fun h => ?_)
    ·cases h
    repeat (first | refine cQ ?_ | refine cK ?_)
    refine cR <| wm rfl ?_
    refine wE rfl (run_call en70 rfl rfl) (hsp (hg.step hs)) ?_
    rintro e w ⟨rfl, hq⟩
    refine ⟨_, rfl, ?_⟩
    replace hs := hs.callE hq
    refine wm rfl <| wx rfl rfl rfl <| wx rfl rfl rfl <| wx rfl rfl rfl <| wa rfl <| wa rfl <| wa rfl <| wZ ?_
    by_cases hq : s.qf < (s.items : Int) + ml + 1
    ·have e : (97 : Int) = res := by rw [← hres, if_pos (.inl hq)]
     refine cQ ?_
     refine CW.quiet mixedP (by kernel_rfl) hs ?_
     refine qm rfl ?_
     refine QL.enter rfl (fun w => run_call en24 rfl rfl) (fun w hs => hitm (hlw hs)) ?_
     refine qm rfl <| qV rfl (fun w hs => run_lenSl underlying88 rfl) <| qV rfl (fun w hs => run_add (c := ((s.items : Int) + ml)) rfl rfl (by omega) (by omega)) <| qV rfl (fun w hs => run_add (c := ((s.items : Int) + ml + 1)) rfl rfl (by omega) (by omega)) <| qm rfl <| qn rfl rfl <| qV rfl (fun w hs => run_field (o' := 3) underlying61 rfl ty24 rfl rfl rfl) <| qV rfl (fun w hs => run_field (o' := 1) underlying24 rfl ty3 rfl rfl rfl) <| qV rfl (fun w hs => run_load1 ty3 rfl ((hat (hlw hs)).cell (j := 4) rfl)) <| qV rfl (fun w hs => run_bT (run_gtr rfl rfl) (by omega)) <| qm rfl <| QL.no rfl rfl rfl (.inl rfl) <| QL.no rfl rfl rfl (.inl rfl) <| QL.no rfl rfl rfl (.inl rfl) ?_
     refine QL.no rfl rfl rfl (.inl rfl) <| QL.no rfl rfl rfl (.inl rfl) <| QL.no rfl rfl rfl (.inl rfl) <| QL.no rfl rfl rfl (.inl rfl) <| QL.no rfl rfl rfl (.inl rfl) <| QL.no rfl rfl rfl (.inl rfl) <| QL.no rfl rfl rfl (.inl rfl) <| qV rfl (fun w hs => run_pickT rfl) ?_
     refine QL.nil (fun w hs => ?_)
     refine cC rfl (fun h => ?_) (fun h => ?_)
     ·refine cQ <| cR <| wa rfl <| wZ ?_
      refine CW.ret ?_
      refine fin_ret1 rfl ?_
      exact ⟨congrArg (fun b => Ending.returned (.int .i64 b)) e, hs⟩
     ·cases h
    ·by_cases hb : 1024 ≤ r.n
     ·have e : (97 : Int) = res := by rw [← hres, if_pos (.inr hb)]
      refine cQ ?_
      refine CW.quiet mixedP (by kernel_rfl) hs ?_
      refine qm rfl ?_
      refine QL.enter rfl (fun w => run_call en24 rfl rfl) (fun w hs => hitm (hlw hs)) ?_
      refine qm rfl <| qV rfl (fun w hs => run_lenSl underlying88 rfl) <| qV rfl (fun w hs => run_add (c := ((s.items : Int) + ml)) rfl rfl (by omega) (by omega)) <| qV rfl (fun w hs => run_add (c := ((s.items : Int) + ml + 1)) rfl rfl (by omega) (by omega)) <| qm rfl <| qn rfl rfl <| qV rfl (fun w hs => run_field (o' := 3) underlying61 rfl ty24 rfl rfl rfl) <| qV rfl (fun w hs => run_field (o' := 1) underlying24 rfl ty3 rfl rfl rfl) <| qV rfl (fun w hs => run_load1 ty3 rfl ((hat (hlw hs)).cell (j := 4) rfl)) <| qV rfl (fun w hs => run_bF (run_gtr rfl rfl) (by omega)) <| qm rfl <| QL.yes rfl rfl rfl <| qm rfl <| QL.yes rfl rfl rfl <| qn rfl rfl ?_
      refine QL.yes rfl rfl rfl <| qV rfl (fun w hs => run_field (o' := 1) underlying61 rfl ty58 rfl rfl rfl) <| QL.yes rfl rfl rfl <| qV rfl (fun w hs => run_load1 ty58 rfl ((hat (hlw hs)).cell (j := 1) rfl)) <| QL.yes rfl rfl rfl <| qm rfl <| QL.yes rfl rfl rfl <| qV rfl (fun w hs => run_lookupSE underlying58 underlying9 (zDir _) (hvU) rfl rfl (o.md_ (hlw hs))) <| QL.yes rfl rfl rfl <| qn rfl rfl <| QL.yes rfl rfl rfl <| qV rfl (fun w hs => run_field (o' := 1) underlying74 rfl ty3 rfl rfl rfl) <| QL.yes rfl rfl rfl <| qV rfl (fun w hs => run_load1 ty3 rfl ((o.dat (hlw hs) hr).cell (j := 1) rfl)) ?_
      refine QL.yes rfl rfl rfl <| qV rfl (fun w hs => run_bT (run_geq rfl rfl) (by omega)) <| qV rfl (fun w hs => run_pickF rfl) ?_
      refine QL.nil (fun w hs => ?_)
      refine cC rfl (fun h => ?_) (fun h => ?_)
      ·refine cQ <| cR <| wa rfl <| wZ ?_
       refine CW.ret ?_
       refine fin_ret1 rfl ?_
       exact ⟨congrArg (fun b => Ending.returned (.int .i64 b)) e, hs⟩
      ·cases h
     ·have hfin : (if s.qo ≤ (s.op : Int) then (98 : Int) else 0) = res := (if_neg (fun h => Or.elim h hq hb)).symm.trans hres
      refine cQ ?_
      refine CW.quiet mixedP (by kernel_rfl) hs ?_
      refine qm rfl ?_
      refine QL.enter rfl (fun w => run_call en24 rfl rfl) (fun w hs => hitm (hlw hs)) ?_
      refine qm rfl <| qV rfl (fun w hs => run_lenSl underlying88 rfl) <| qV rfl (fun w hs => run_add (c := ((s.items : Int) + ml)) rfl rfl (by omega) (by omega)) <| qV rfl (fun w hs => run_add (c := ((s.items : Int) + ml + 1)) rfl rfl (by omega) (by omega)) <| qm rfl <| qn rfl rfl <| qV rfl (fun w hs => run_field (o' := 3) underlying61 rfl ty24 rfl rfl rfl) <| qV rfl (fun w hs => run_field (o' := 1) underlying24 rfl ty3 rfl rfl rfl) <| qV rfl (fun w hs => run_load1 ty3 rfl ((hat (hlw hs)).cell (j := 4) rfl)) <| qV rfl (fun w hs => run_bF (run_gtr rfl rfl) (by omega)) <| qm rfl <| QL.yes rfl rfl rfl <| qm rfl <| QL.yes rfl rfl rfl <| qn rfl rfl ?_
      refine QL.yes rfl rfl rfl <| qV rfl (fun w hs => run_field (o' := 1) underlying61 rfl ty58 rfl rfl rfl) <| QL.yes rfl rfl rfl <| qV rfl (fun w hs => run_load1 ty58 rfl ((hat (hlw hs)).cell (j := 1) rfl)) <| QL.yes rfl rfl rfl <| qm rfl <| QL.yes rfl rfl rfl <| qV rfl (fun w hs => run_lookupSE underlying58 underlying9 (zDir _) (hvU) rfl rfl (o.md_ (hlw hs))) <| QL.yes rfl rfl rfl <| qn rfl rfl <| QL.yes rfl rfl rfl <| qV rfl (fun w hs => run_field (o' := 1) underlying74 rfl ty3 rfl rfl rfl) <| QL.yes rfl rfl rfl <| qV rfl (fun w hs => run_load1 ty3 rfl ((o.dat (hlw hs) hr).cell (j := 1) rfl)) ?_
      refine QL.yes rfl rfl rfl <| qV rfl (fun w hs => run_bF (run_geq rfl rfl) (by omega)) <| qV rfl (fun w hs => run_pickF rfl) ?_
      refine QL.nil (fun w hs => ?_)
      refine cC rfl (fun h => ?_) (fun h => ?_)
      ·cases h
      by_cases ho : s.qo ≤ (s.op : Int)
      ·have e : (98 : Int) = res := by rw [← hfin, if_pos ho]
       repeat (first | refine cQ ?_ | refine cK ?_)
       refine CW.quiet mixedP (by kernel_rfl) hs ?_
       refine qm rfl <| qn rfl rfl <| qV rfl (fun w hs => run_field (o' := 7) underlying61 rfl ty3 rfl rfl rfl) <| qV rfl (fun w hs => run_load1 ty3 rfl ((hat (hlw hs)).cell (j := 7) rfl)) <| qm rfl <| qn rfl rfl <| qV rfl (fun w hs => run_field (o' := 3) underlying61 rfl ty24 rfl rfl rfl) <| qV rfl (fun w hs => run_field (o' := 2) underlying24 rfl ty3 rfl rfl rfl) <| qV rfl (fun w hs => run_load1 ty3 rfl ((hat (hlw hs)).cell (j := 5) rfl)) <| qV rfl (fun w hs => run_bT (run_geq rfl rfl) (by omega)) ?_
       refine QL.nil (fun w hs => ?_)
       refine cC rfl (fun h => ?_) (fun h => ?_)
       ·refine cQ <| cR <| wa rfl <| wZ ?_
        refine CW.ret ?_
        refine fin_ret1 rfl ?_
        exact ⟨congrArg (fun b => Ending.returned (.int .i64 b)) e, hs⟩
       ·cases h
      ·have e : (0 : Int) = res := by rw [← hfin, if_neg ho]
       repeat (first | refine cQ ?_ | refine cK ?_)
       refine CW.quiet mixedP (by kernel_rfl) hs ?_
       refine qm rfl <| qn rfl rfl <| qV rfl (fun w hs => run_field (o' := 7) underlying61 rfl ty3 rfl rfl rfl) <| qV rfl (fun w hs => run_load1 ty3 rfl ((hat (hlw hs)).cell (j := 7) rfl)) <| qm rfl <| qn rfl rfl <| qV rfl (fun w hs => run_field (o' := 3) underlying61 rfl ty24 rfl rfl rfl) <| qV rfl (fun w hs => run_field (o' := 2) underlying24 rfl ty3 rfl rfl rfl) <| qV rfl (fun w hs => run_load1 ty3 rfl ((hat (hlw hs)).cell (j := 5) rfl)) <| qV rfl (fun w hs => run_bF (run_geq rfl rfl) (by omega)) ?_
       refine QL.nil (fun w hs => ?_)
       refine cC rfl (fun h => ?_) (fun h => ?_)
       ·cases h
       repeat (first | refine cQ ?_ | refine cK ?_)
       refine cR <| wa rfl <| wZ ?_
       refine CW.ret ?_
       refine fin_ret1 rfl ?_
       exact ⟨congrArg (fun b => Ending.returned (.int .i64 b)) e, hs⟩
   ·cases h
  | cons m0 ms =>
   have hobt := hm.based (by simp)
   obtain ⟨bm, om, cc, hq1, hmat⟩ := hobt
   cases hq1
   have hml0 : 0 < ml := by rw [← eml]; simp
   replace efst : m0 = fst := efst
   subst efst
   refine calls (n := 79) Tryz.func47 rfl rfl rfl ?_
   refine cQ <| cR <| wa rfl <| wZ ?_
   repeat (first | refine cQ ?_ | refine CW.block ?_)
   refine cR <| wm rfl <| wn rfl rfl <| wV rfl (run_field (o' := 1) underlying61 rfl ty58 rfl rfl rfl) <| wV rfl (run_load1 ty58 rfl ((hat (hlw hs)).cell (j := 1) rfl)) <| wm rfl <| wV rfl (run_lookupSE underlying58 underlying9 (zDir _) (hvD) rfl rfl (o.md_ (hlw hs))) <| wV rfl (run_nilNe underlying72 rfl rfl) <| wa rfl <| wZ ?_
   refine cC rfl (fun h => ?_) (fun h => ?_)
   ·cases h
   refine cQ <| cR <| wm rfl <| wV rfl (run_nilNil underlying62 rfl rfl) <| wm rfl <| WL.yes rfl rfl rfl <| wm rfl <| WL.yes rfl rfl rfl <| wV rfl (run_bF (run_eql rfl rfl) (by exact hm0)) <| wV rfl (run_pickT rfl) <| wa rfl <| wZ ?_
   refine cC rfl (fun h => ?_) (fun h => ?_)
   ·cases h
   repeat (first | refine cQ ?_ | refine cK ?_)
   refine cR <| wm rfl <| wV rfl (run_nilNil underlying62 rfl rfl) <| wZ ?_
   refine cC rfl (fun h => ?_) (fun h => ?_)
   ·refine cQ <| cR <| wm rfl <| wa rfl <| wZ <| cQ <| cQ <| cR <| wm rfl <| wV rfl (run_lenSl underlying88 rfl) <| wV rfl (run_bT (run_gtr rfl rfl) (by omega)) <| wZ ?_
    refine cC rfl (fun h => ?_) (fun h => ?_)
    ·skip
     refine cR <| wm rfl <| wV rfl (run_ixSlN (i := 0) underlying88 ty9 rfl rfl (by omega)) <| wV rfl (run_load1 ty9 rfl ((hmat.step hs (by simp)).cell (j := 0) (v := str m0) rfl)) <| wa rfl <| wZ <| cQ <| cR <| wm rfl ?_
     refine wE rfl (run_call en70 rfl rfl) (hsp (hg.step hs)) ?_
     rintro e w ⟨rfl, hq⟩
     refine ⟨_, rfl, ?_⟩
     replace hs := hs.callE hq
     refine wm rfl <| wx rfl rfl rfl <| wx rfl rfl rfl <| wx rfl rfl rfl <| wa rfl <| wa rfl <| wa rfl <| wZ ?_
     by_cases hq : s.qf < (s.items : Int) + ml + 1
     ·have e : (97 : Int) = res := by rw [← hres, if_pos (.inl hq)]
      refine cQ ?_
      refine CW.quiet mixedP (by kernel_rfl) hs ?_
      refine qm rfl ?_
      refine QL.enter rfl (fun w => run_call en24 rfl rfl) (fun w hs => hitm (hlw hs)) ?_
      refine qm rfl <| qV rfl (fun w hs => run_lenSl underlying88 rfl) <| qV rfl (fun w hs => run_add (c := ((s.items : Int) + ml)) rfl rfl (by omega) (by omega)) <| qV rfl (fun w hs => run_add (c := ((s.items : Int) + ml + 1)) rfl rfl (by omega) (by omega)) <| qm rfl <| qn rfl rfl <| qV rfl (fun w hs => run_field (o' := 3) underlying61 rfl ty24 rfl rfl rfl) <| qV rfl (fun w hs => run_field (o' := 1) underlying24 rfl ty3 rfl rfl rfl) <| qV rfl (fun w hs => run_load1 ty3 rfl ((hat (hlw hs)).cell (j := 4) rfl)) <| qV rfl (fun w hs => run_bT (run_gtr rfl rfl) (by omega)) <| qm rfl <| QL.no rfl rfl rfl (.inl rfl) <| QL.no rfl rfl rfl (.inl rfl) <| QL.no rfl rfl rfl (.inl rfl) ?_
      refine QL.no rfl rfl rfl (.inl rfl) <| QL.no rfl rfl rfl (.inl rfl) <| QL.no rfl rfl rfl (.inl rfl) <| QL.no rfl rfl rfl (.inl rfl) <| QL.no rfl rfl rfl (.inl rfl) <| QL.no rfl rfl rfl (.inl rfl) <| QL.no rfl rfl rfl (.inl rfl) <| qV rfl (fun w hs => run_pickT rfl) ?_
      refine QL.nil (fun w hs => ?_)
      refine cC rfl (fun h => ?_) (fun h => ?_)
      ·refine cQ <| cR <| wa rfl <| wZ ?_
       refine CW.ret ?_
       refine fin_ret1 rfl ?_
       exact ⟨congrArg (fun b => Ending.returned (.int .i64 b)) e, hs⟩
      ·cases h
     ·by_cases hb : 1024 ≤ r.n
      ·have e : (97 : Int) = res := by rw [← hres, if_pos (.inr hb)]
       refine cQ ?_
       refine CW.quiet mixedP (by kernel_rfl) hs ?_
       refine qm rfl ?_
       refine QL.enter rfl (fun w => run_call en24 rfl rfl) (fun w hs => hitm (hlw hs)) ?_
       refine qm rfl <| qV rfl (fun w hs => run_lenSl underlying88 rfl) <| qV rfl (fun w hs => run_add (c := ((s.items : Int) + ml)) rfl rfl (by omega) (by omega)) <| qV rfl (fun w hs => run_add (c := ((s.items : Int) + ml + 1)) rfl rfl (by omega) (by omega)) <| qm rfl <| qn rfl rfl <| qV rfl (fun w hs => run_field (o' := 3) underlying61 rfl ty24 rfl rfl rfl) <| qV rfl (fun w hs => run_field (o' := 1) underlying24 rfl ty3 rfl rfl rfl) <| qV rfl (fun w hs => run_load1 ty3 rfl ((hat (hlw hs)).cell (j := 4) rfl)) <| qV rfl (fun w hs => run_bF (run_gtr rfl rfl) (by omega)) <| qm rfl <| QL.yes rfl rfl rfl <| qm rfl <| QL.yes rfl rfl rfl <| qn rfl rfl ?_
       refine QL.yes rfl rfl rfl <| qV rfl (fun w hs => run_field (o' := 1) underlying61 rfl ty58 rfl rfl rfl) <| QL.yes rfl rfl rfl <| qV rfl (fun w hs => run_load1 ty58 rfl ((hat (hlw hs)).cell (j := 1) rfl)) <| QL.yes rfl rfl rfl <| qm rfl <| QL.yes rfl rfl rfl <| qV rfl (fun w hs => run_lookupSE underlying58 underlying9 (zDir _) (hvU) rfl rfl (o.md_ (hlw hs))) <| QL.yes rfl rfl rfl <| qn rfl rfl <| QL.yes rfl rfl rfl <| qV rfl (fun w hs => run_field (o' := 1) underlying74 rfl ty3 rfl rfl rfl) <| QL.yes rfl rfl rfl <| qV rfl (fun w hs => run_load1 ty3 rfl ((o.dat (hlw hs) hr).cell (j := 1) rfl)) ?_
       refine QL.yes rfl rfl rfl <| qV rfl (fun w hs => run_bT (run_geq rfl rfl) (by omega)) <| qV rfl (fun w hs => run_pickF rfl) ?_
       refine QL.nil (fun w hs => ?_)
       refine cC rfl (fun h => ?_) (fun h => ?_)
       ·refine cQ <| cR <| wa rfl <| wZ ?_
        refine CW.ret ?_
        refine fin_ret1 rfl ?_
        exact ⟨congrArg (fun b => Ending.returned (.int .i64 b)) e, hs⟩
       ·cases h
      ·have hfin : (if s.qo ≤ (s.op : Int) then (98 : Int) else 0) = res := (if_neg (fun h => Or.elim h hq hb)).symm.trans hres
       refine cQ ?_
       refine CW.quiet mixedP (by kernel_rfl) hs ?_
       refine qm rfl ?_
       refine QL.enter rfl (fun w => run_call en24 rfl rfl) (fun w hs => hitm (hlw hs)) ?_
       refine qm rfl <| qV rfl (fun w hs => run_lenSl underlying88 rfl) <| qV rfl (fun w hs => run_add (c := ((s.items : Int) + ml)) rfl rfl (by omega) (by omega)) <| qV rfl (fun w hs => run_add (c := ((s.items : Int) + ml + 1)) rfl rfl (by omega) (by omega)) <| qm rfl <| qn rfl rfl <| qV rfl (fun w hs => run_field (o' := 3) underlying61 rfl ty24 rfl rfl rfl) <| qV rfl (fun w hs => run_field (o' := 1) underlying24 rfl ty3 rfl rfl rfl) <| qV rfl (fun w hs => run_load1 ty3 rfl ((hat (hlw hs)).cell (j := 4) rfl)) <| qV rfl (fun w hs => run_bF (run_gtr rfl rfl) (by omega)) <| qm rfl <| QL.yes rfl rfl rfl <| qm rfl <| QL.yes rfl rfl rfl <| qn rfl rfl ?_
       refine QL.yes rfl rfl rfl <| qV rfl (fun w hs => run_field (o' := 1) underlying61 rfl ty58 rfl rfl rfl) <| QL.yes rfl rfl rfl <| qV rfl (fun w hs => run_load1 ty58 rfl ((hat (hlw hs)).cell (j := 1) rfl)) <| QL.yes rfl rfl rfl <| qm rfl <| QL.yes rfl rfl rfl <| qV rfl (fun w hs => run_lookupSE underlying58 underlying9 (zDir _) (hvU) rfl rfl (o.md_ (hlw hs))) <| QL.yes rfl rfl rfl <| qn rfl rfl <| QL.yes rfl rfl rfl <| qV rfl (fun w hs => run_field (o' := 1) underlying74 rfl ty3 rfl rfl rfl) <| QL.yes rfl rfl rfl <| qV rfl (fun w hs => run_load1 ty3 rfl ((o.dat (hlw hs) hr).cell (j := 1) rfl)) ?_
       refine QL.yes rfl rfl rfl <| qV rfl (fun w hs => run_bF (run_geq rfl rfl) (by omega)) <| qV rfl (fun w hs => run_pickF rfl) ?_
       refine QL.nil (fun w hs => ?_)
       refine cC rfl (fun h => ?_) (fun h => ?_)
       ·cases h
       by_cases ho : s.qo ≤ (s.op : Int)
       ·have e : (98 : Int) = res := by rw [← hfin, if_pos ho]
        repeat (first | refine cQ ?_ | refine cK ?_)
        refine CW.quiet mixedP (by kernel_rfl) hs ?_
        refine qm rfl <| qn rfl rfl <| qV rfl (fun w hs => run_field (o' := 7) underlying61 rfl ty3 rfl rfl rfl) <| qV rfl (fun w hs => run_load1 ty3 rfl ((hat (hlw hs)).cell (j := 7) rfl)) <| qm rfl <| qn rfl rfl <| qV rfl (fun w hs => run_field (o' := 3) underlying61 rfl ty24 rfl rfl rfl) <| qV rfl (fun w hs => run_field (o' := 2) underlying24 rfl ty3 rfl rfl rfl) <| qV rfl (fun w hs => run_load1 ty3 rfl ((hat (hlw hs)).cell (j := 5) rfl)) <| qV rfl (fun w hs => run_bT (run_geq rfl rfl) (by omega)) ?_
        refine QL.nil (fun w hs => ?_)
        refine cC rfl (fun h => ?_) (fun h => ?_)
        ·refine cQ <| cR <| wa rfl <| wZ ?_
         refine CW.ret ?_
         refine fin_ret1 rfl ?_
         exact ⟨congrArg (fun b => Ending.returned (.int .i64 b)) e, hs⟩
        ·cases h
       ·have e : (0 : Int) = res := by rw [← hfin, if_neg ho]
        repeat (first | refine cQ ?_ | refine cK ?_)
        refine CW.quiet mixedP (by kernel_rfl) hs ?_
        refine qm rfl <| qn rfl rfl <| qV rfl (fun w hs => run_field (o' := 7) underlying61 rfl ty3 rfl rfl rfl) <| qV rfl (fun w hs => run_load1 ty3 rfl ((hat (hlw hs)).cell (j := 7) rfl)) <| qm rfl <| qn rfl rfl <| qV rfl (fun w hs => run_field (o' := 3) underlying61 rfl ty24 rfl rfl rfl) <| qV rfl (fun w hs => run_field (o' := 2) underlying24 rfl ty3 rfl rfl rfl) <| qV rfl (fun w hs => run_load1 ty3 rfl ((hat (hlw hs)).cell (j := 5) rfl)) <| qV rfl (fun w hs => run_bF (run_geq rfl rfl) (by omega)) ?_
        refine QL.nil (fun w hs => ?_)
        refine cC rfl (fun h => ?_) (fun h => ?_)
        ·cases h
        repeat (first | refine cQ ?_ | refine cK ?_)
        refine cR <| wa rfl <| wZ ?_
        refine CW.ret ?_
        refine fin_ret1 rfl ?_
        exact ⟨congrArg (fun b => Ending.returned (.int .i64 b)) e, hs⟩
    ·cases h
   ·cases h
end
end Go.Gx
/-! Vs13 -/
namespace Go.Gx
open Go.Proofs Go.Proofs.Tryz
theorem upsF_word : ∀ {x pre : List UInt8}, 47 ∉ x → upsF pre x = []
 | [], _, _ => rfl
 | c :: x, pre, h => by
  rw [upsF, if_neg (fun e => h (by simp [e])), upsF_word (fun hm => h (List.mem_cons_of_mem _ hm))]
theorem upsF_app : ∀ {x pre t : List UInt8}, 47 ∉ x → upsF pre (x ++ 47 :: t) = (pre ++ x) :: upsF (pre ++ x ++ [47]) t
 | [], pre, t, _ => by simp [upsF]
 | c :: x, pre, t, h => by
  rw [List.cons_append, upsF, if_neg (fun e => h (by simp [e])), upsF_app (fun hm => h (List.mem_cons_of_mem _ hm))]
  simp
def upsR : List (List UInt8) → List (List UInt8) → List (List UInt8)
 | done, x :: y :: l => joinL (done ++ [x]) :: upsR (done ++ [x]) (y :: l)
 | _, _ => []
theorem ups_join : ∀ (l done : List (List UInt8)) (pre : List UInt8), (∀ x ∈ l, 47 ∉ x) → (∀ x, joinL (done ++ [x]) = pre ++ x) → upsF pre (joinL l) = upsR done l
 | [], done, pre, _, _ => by simp [joinL, List.intercalate, upsF, upsR]
 | [x], done, pre, h, _ => by rw [joinL_one, upsF_word (h x (by simp)), upsR]; intros; simp_all
 | x :: y :: l, done, pre, h, hp => by
  rw [joinL_cons (by simp), upsF_app (h x (by simp)), upsR, hp, ups_join (y :: l) (done ++ [x]) (pre ++ x ++ [47]) (fun z hz => h z (List.mem_cons_of_mem _ hz)) (fun z => by
   rw [joinL_snoc, if_pos (by simp), hp])]
def Chain : List UInt8 → List (List UInt8) → Prop
 | _, [] => True
 | prev, u :: l => (splitR u).1 = prev ∧ prev.length < u.length ∧ Chain u l
theorem splitR_join {r : List (List UInt8)} {x : List UInt8} (h : Named (r ++ [x])) (hl : (r ++ [x]).length ≤ 32) : splitR (joinL (r ++ [x])) = (joinL r, x, 0) := by
 have hobt := named_clean h hl
 obtain ⟨h1, h2⟩ := hobt
 unfold splitR
 rw [h1, h2, if_neg (by simp), if_neg (by simp)]
 simp
theorem ups_chain : ∀ (l done : List (List UInt8)), Named (done ++ l) → (done ++ l).length ≤ 32 → Chain (joinL done) (upsR done l)
 | [], _, _, _ => trivial
 | [_], _, _, _ => trivial
 | x :: y :: l, done, hn, hl => by
  have e : done ++ x :: y :: l = (done ++ [x]) ++ y :: l := by simp
  rw [e] at hn hl
  have hn1 : Named (done ++ [x]) := fun p hp => hn p (List.mem_append_left _ hp)
  have hl1 : (done ++ [x]).length ≤ 32 := by
   rw [List.length_append] at hl
   omega
  have hx := isName_facts (hn1 x (by simp))
  refine ⟨by rw [splitR_join hn1 hl1], ?_, ups_chain (y :: l) (done ++ [x]) hn hl⟩
  rw [joinL_snoc]
  have := List.length_pos_iff.2 hx.1
  split <;> simp only [List.length_append, List.length_cons, List.length_nil] <;> omega
theorem ups_last : ∀ (l done : List (List UInt8)), l ≠ [] → ((upsR done l).getLast?).getD (joinL done) = joinL (done ++ l).dropLast
 | [], _, h => absurd rfl h
 | [x], done, _ => by simp [upsR]
 | x :: y :: l, done, _ => by
  have ih := ups_last (y :: l) (done ++ [x]) (by simp)
  rw [upsR, List.getLast?_cons, Option.getD_some, ih]
  simp
theorem chain_longer : ∀ {l : List (List UInt8)} {prev u : List UInt8}, Chain prev l → u ∈ l → prev.length < u.length
 | [], _, _, _, h => by cases h
 | a :: l, prev, u, h, hu => by
  obtain ⟨_, h2, h3⟩ := h
  rcases List.mem_cons.1 hu with h4 | h4
  ·rw [h4]; exact h2
  ·exact Nat.lt_trans h2 (chain_longer h3 h4)
/-- These directories may be made, one after the other. -/
def Made : VS → List (List UInt8) → Prop
 | _, [] => True
 | s, d :: l => (s.dir (splitR d).1).isSome ∧ s.dir d = none ∧ Made (s.addDir d) l
theorem dir_bump (s : VS) (j : Nat) (u : List UInt8) : (s.bump j).dir u = s.dir u := by
 have hg : ∀ (l : List (List UInt8 × Nat)) (j : Nat), (l.modify j fun e => (e.1, e.2 + 1)).findIdx? (fun e : List UInt8 × Nat => decide (e.1 = u)) = l.findIdx? (fun e => decide (e.1 = u)) := by
  intro l
  induction l with
  | nil => intro j; simp
  | cons a l ih =>
   intro j
   cases j with
   | zero => simp [List.findIdx?_cons]
   | succ j => simp [List.findIdx?_cons, ih j]
 exact hg s.D j
theorem dir_addDir {s : VS} {d u : List UInt8} (h : (s.dir (splitR d).1).isSome) : (s.addDir d).dir u = if (s.dir u).isSome then s.dir u else if d = u then some s.D.length else none := by
 have hobt := Option.isSome_iff_exists.1 h
 obtain ⟨j, hj⟩ := hobt
 have e : s.addDir d = { s.bump j with D := (s.bump j).D ++ [(d, 0)] } := by unfold VS.addDir; rw [hj]
 have e2 : (s.addDir d).dir u = ((s.bump j).D ++ [(d, 0)]).findIdx? (fun e : List UInt8 × Nat => decide (e.1 = u)) := by rw [e]; rfl
 have e3 : (s.bump j).D.findIdx? (fun e : List UInt8 × Nat => decide (e.1 = u)) = s.dir u := dir_bump s j u
 have e4 : (s.bump j).D.length = s.D.length := by simp [VS.bump]
 rw [e2, List.findIdx?_append, e3, e4]
 cases hu : s.dir u with
 | some i => simp
 | none => by_cases hd : d = u <;> simp [List.findIdx?_cons, hd]
theorem file_addDir (s : VS) (d u : List UInt8) : (s.addDir d).file u = s.file u := by
 unfold VS.addDir
 split <;> rfl
theorem way_ok {s : VS} {mend : Bool} : ∀ {l acc M : List (List UInt8)}, s.way mend l acc = (M, 0) → M = acc ++ l.filter (fun u => (s.dir u).isNone)
 | [], acc, M, h => by
  rw [VS.way] at h
  cases h
  simp
 | u :: l, acc, M, h => by
  rw [VS.way] at h
  split at h
  ·cases h
  ·split at h
   ·rename_i h1 h2
    have h3 : (s.dir u).isNone = false := by cases hd : s.dir u <;> simp_all
    rw [way_ok h, List.filter_cons, h3]
    simp
   ·split at h
    ·cases h
    ·rename_i h1 h2 h3
     have h4 : (s.dir u).isNone = true := by cases hd : s.dir u <;> simp_all
     rw [way_ok h, List.filter_cons, h4]
     simp
theorem made_chain {s : VS} : ∀ {l : List (List UInt8)} {prev : List UInt8} {s' : VS}, Chain prev l → (s'.dir prev).isSome → (∀ u ∈ l, (s'.dir u).isNone = (s.dir u).isNone) →
  Made s' (l.filter fun u => (s.dir u).isNone) ∧ (((l.filter fun u => (s.dir u).isNone).foldl VS.addDir s').dir ((l.getLast?).getD prev)).isSome
 | [], prev, s', _, h2, _ => ⟨trivial, h2⟩
 | u :: l, prev, s', h1, h2, h3 => by
  obtain ⟨c1, c2, c3⟩ := h1
  rw [List.getLast?_cons, Option.getD_some, List.filter_cons]
  cases hu : (s.dir u).isNone with
  | false =>
   rw [if_neg (by simp)]
   have h4 := h3 u (by simp)
   rw [hu] at h4
   refine made_chain c3 ?_ fun x hx => h3 x (List.mem_cons_of_mem _ hx)
   cases hd : s'.dir u <;> simp_all
  | true =>
   rw [if_pos rfl]
   have h4 := h3 u (by simp)
   rw [hu] at h4
   have hn : s'.dir u = none := by cases hd : s'.dir u <;> simp_all
   have hp : (s'.dir (splitR u).1).isSome := by rw [c1]; exact h2
   have hthis : ((s'.addDir u).dir u).isSome := by
    rw [dir_addDir hp, hn]
    simp
   have hrest : ∀ x ∈ l, ((s'.addDir u).dir x).isNone = (s.dir x).isNone := fun x hx => by
    rw [← h3 x (List.mem_cons_of_mem _ hx), dir_addDir hp]
    have hlt := chain_longer c3 hx
    have hne : u ≠ x := fun e => by rw [e] at hlt; omega
    rw [if_neg hne]
    cases hd : s'.dir x <;> simp
   have hobt := made_chain (s := s) c3 hthis hrest
   obtain ⟨m1, m2⟩ := hobt
   exact ⟨⟨hp, hn, m1⟩, by rw [List.foldl_cons]; exact m2⟩
/-- Behind a way that went well, what is missing can be made, and then the path's directory stands. -/
theorem way_made {s : VS} {mend : Bool} {q : List UInt8} {M : List (List UInt8)} (hq : isCleanL q = true) (hne : q ≠ []) (hroot : (s.dir []).isSome) (hw : s.way mend (upsF [] q) [] = (M, 0)) :
  Made s M ∧ ((M.foldl VS.addDir s).dir (splitR q).1).isSome := by
 have hobt := clean_named hq
 obtain ⟨h1, h2⟩ := hobt
 have hrow : partsL q ≠ [] := fun e => hne (partsL_nil e)
 have e1 : upsF [] q = upsR [] (partsL q) := by
  have := ups_join (partsL q) [] [] (fun x hx => isName_slash (h1 x hx)) (fun x => by simp [joinL_one])
  rw [joinL_partsL] at this
  exact this
 have hc := ups_chain (partsL q) [] (by simpa using h1) (by simpa using h2)
 have hl := ups_last (partsL q) [] hrow
 have hj0 : joinL [] = [] := rfl
 rw [hj0] at hc hl
 rw [List.nil_append] at hl
 have hM := way_ok hw
 rw [e1, List.nil_append] at hM
 have := made_chain (s := s) (s' := s) hc hroot (fun u hu => rfl)
 rw [← hM, hl] at this
 refine ⟨this.1, ?_⟩
 have e2 : (splitR q).1 = joinL (partsL q).dropLast := by
  unfold splitR
  rw [hq, if_neg (by simp), if_neg hrow]
 rw [e2]
 exact this.2
/-- The first that is missing has its directory. -/
theorem way_first {s : VS} {mend : Bool} {q : List UInt8} {M : List (List UInt8)} (hq : isCleanL q = true) (hne : q ≠ []) (hroot : (s.dir []).isSome) (hw : s.way mend (upsF [] q) [] = (M, 0)) : (s.dir (splitR (firstL q M)).1).isSome := by
 have hobt := way_made hq hne hroot hw
 obtain ⟨h1, h2⟩ := hobt
 cases M with
 | nil => exact h2
 | cons d l => exact h1.1
end Go.Gx
/-! Vs14 -/
namespace Go.Gx
open Go.Proofs Go.Proofs.Tryz
set_option maxRecDepth 100000
section
variable {P : Program} {f : Slots} {w : World} {d : Option Tmp} {ty : TypeId} {pos : String} {af : Array Edge} {x y : Operand} {T T' E : TypeId} {a : Addr}
theorem run_and4 {m : Nat} (hm : m < 8) (hx : ev f x = .int .i64 (m : Nat)) (hy : ev f y = .int .i64 4) : (execOp (ev f) ⟨d, .binOp .and T x y T', ty, pos, af, none⟩).run P w = .ok (.value (.int .i64 ((if 4 ≤ m then 4 else 0 : Nat) : Int))) w := by
 match m, hm with
 | 0, _ | 1, _ | 2, _ | 3, _ | 4, _ | 5, _ | 6, _ | 7, _ =>
  simp [execOp, hx, hy, go_sem, Op.intBits]
  decide
theorem run_and3 {m : Nat} (hm : m < 8) (hx : ev f x = .int .i64 (m : Nat)) (hy : ev f y = .int .i64 3) : (execOp (ev f) ⟨d, .binOp .and T x y T', ty, pos, af, none⟩).run P w = .ok (.value (.int .i64 ((m % 4 : Nat) : Int))) w := by
 match m, hm with
 | 0, _ | 1, _ | 2, _ | 3, _ | 4, _ | 5, _ | 6, _ | 7, _ =>
  simp [execOp, hx, hy, go_sem, Op.intBits]
  decide
theorem run_nilPtr (hT : P.underlying T = some (.pointer E)) (hx : ev f x = .pointer none) (hy : ev f y = .pointer (some a)) : (execOp (ev f) ⟨d, .binOp .eql T x y T', ty, pos, af, none⟩).run P w = .ok (.value (.bool false)) w := by
 have h0 : ∀ d, (Op.equalIn (d + 1) T (.pointer none) (.pointer (some a))).run P w = .ok false w := fun d => by simp [Op.equalIn, run_underlying hT, sameAddr]
 have h : (Op.equal T (.pointer none) (.pointer (some a))).run P w = .ok false w := h0 9999
 simp [execOp, hx, hy, eqGuard, binOp, h]
end
/-- The first place that is free, or -1. -/
def freeI (Hs : List (Option HB)) : Int := match Hs.findIdx? Option.isNone with
 | some k => (k : Nat)
 | none => -1
theorem free_none {Hs : List (Option HB)} (h : ∀ k, k < Hs.length → Hs[k]? ≠ some none) : freeI Hs = -1 := by
 unfold freeI
 rw [List.findIdx?_eq_none_iff.2 fun x hx => by
  have hobt := List.mem_iff_getElem.1 hx
  obtain ⟨k, hk, e⟩ := hobt
  cases x with
  | some b => rfl
  | none => exact absurd (by rw [List.getElem?_eq_getElem hk, e]) (h k hk)]
theorem free_some {Hs : List (Option HB)} {i : Nat} (h : ∀ k, k < i → Hs[k]? ≠ some none) (hi : Hs[i]? = some none) : freeI Hs = (i : Nat) := by
 have hobt := List.getElem?_eq_some_iff.1 hi
 obtain ⟨hl, he⟩ := hobt
 have : Hs.findIdx? Option.isNone = some i := by
  rw [List.findIdx?_eq_some_iff_getElem]
  refine ⟨hl, by rw [he]; rfl, fun j hj => ?_⟩
  have h2 := h j hj
  rw [List.getElem?_eq_getElem (by omega)] at h2
  cases hx : Hs[j] with
  | some b => simp
  | none => rw [hx] at h2; exact absurd rfl h2
 unfold freeI
 rw [this]
theorem idx_spec {Hs : List (Option HB)} {vh : Value} (w0 : World) (hsl : Sl w0 1 vh Hs.length (Hs.map HB.val)) (hl : Hs.length ≤ 1000) : Calls Tryz.prog 48 #[vh, .pointer none] w0 (Ret0 (.int .i64 (freeI Hs)) w0) := by
 have hs : Step [] [] w0 w0 := Step.refl w0
 have hobt := hsl.form
 obtain ⟨ah, ch, rfl⟩ := hobt
 refine calls (n := 19) Tryz.func48 rfl rfl rfl ?_
 refine cQ <| cR <| wa rfl <| wZ <| cQ <| cQ <| cR <| wm rfl <| wV rfl (run_lenSl underlying59 rfl) <| wm rfl <| wZ <| CW.block ?_
 refine CW.loop (fun m f w' => ∃ i, i ≤ Hs.length ∧ m = Hs.length - i ∧ (∀ k, k < i → Hs[k]? ≠ some none) ∧ Step [] [] w0 w' ∧ Holds f [(0, .slice ah Hs.length ch), (1, .pointer none), (7, .int .i64 Hs.length), (8, .int .i64 i)]) (m := Hs.length) ?_ ?_
 ·exact ⟨0, by omega, by omega, fun k hk => by omega, hs, rfl, rfl, rfl, rfl, trivial⟩
 ·clear hs
  rintro m f w ⟨i, hi, rfl, hno, hs, hf⟩
  have hobt := hf.chain
  obtain ⟨g, rfl⟩ := hobt
  by_cases hlt : i < Hs.length
  ·have hobt := (hsl.step0 hs).based (by omega)
   obtain ⟨b, off, c, hc, hsat⟩ := hobt
   have hcell : ∀ {v}, Hs[i]? = some v → w.cell? ⟨b, off + i * 1, none⟩ = some (HB.val v) := fun {v} h => by
    rw [Nat.mul_one]
    exact hsat.cell (by rw [List.getElem?_map, h]; rfl)
   injection hc with hc1 hc2 hc3
   subst hc1
   cases hx : Hs[i] with
   | none =>
    have hxi : Hs[i]? = some none := by rw [List.getElem?_eq_getElem hlt, hx]
    have hres := free_some hno hxi
    rw [hres]
    refine cQ <| cR <| wV rfl (run_bT (run_lss rfl rfl) (by omega)) <| wZ ?_
    repeat (first | refine cQ ?_ | refine CW.block ?_ | refine cK ?_ | refine CW.condT rfl ?_)
    refine cR <| wm rfl <| wa rfl <| wZ <| cQ <| cR <| wm rfl <| wm rfl <| wm rfl <| wV rfl (run_ixSlN underlying59 ty75 rfl rfl (by omega)) <| wV rfl (run_load1 ty75 rfl ((hcell hxi))) <| wV rfl (run_nilNil underlying75 rfl rfl) <| wZ ?_
    refine cC rfl (fun h => ?_) (fun h => ?_)
    ·refine cQ <| cR <| wm rfl <| wa rfl <| wZ ?_
     refine CW.ret ?_
     refine fin_ret1 rfl ?_
     exact ⟨rfl, hs⟩
    ·cases h
   | some hb =>
    have hxi : Hs[i]? = some (some hb) := by rw [List.getElem?_eq_getElem hlt, hx]
    refine cQ <| cR <| wV rfl (run_bT (run_lss rfl rfl) (by omega)) <| wZ ?_
    repeat (first | refine cQ ?_ | refine CW.block ?_ | refine cK ?_ | refine CW.condT rfl ?_)
    refine cR <| wm rfl <| wa rfl <| wZ <| cQ <| cR <| wm rfl <| wm rfl <| wm rfl <| wV rfl (run_ixSlN underlying59 ty75 rfl rfl (by omega)) <| wV rfl (run_load1 ty75 rfl ((hcell hxi))) <| wV rfl (run_nilPtr underlying75 rfl rfl) <| wZ ?_
    refine cC rfl (fun h => ?_) (fun h => ?_)
    ·cases h
    refine cK <| cR <| wV rfl (run_add (c := ((i + 1 : Nat) : Int)) rfl rfl (by omega) (by omega)) <| wm rfl <| wZ ?_
    refine (show _ ∧ _ from ⟨rfl, _, ?_, i + 1, by omega, rfl, ?_, hs, rfl, rfl, rfl, rfl, trivial⟩)
    ·omega
    ·intro k hk
     by_cases hki : k = i
     ·rw [hki, hxi]
      simp
     ·exact hno k (by omega)
  ·have hres := free_none (fun k hk => hno k (by omega))
   rw [hres]
   refine cQ <| cR <| wV rfl (run_bF (run_lss rfl rfl) (by omega)) <| wZ ?_
   repeat (first | refine cQ ?_ | refine CW.exit ?_ | refine CW.condF rfl ?_)
   refine cR <| wa rfl <| wZ ?_
   refine CW.ret ?_
   refine fin_ret1 rfl ?_
   exact ⟨rfl, hs⟩
end Go.Gx
/-! Vs15 -/
namespace Go.Gx
open Go.Proofs Go.Proofs.Tryz
def VS.put1 (s : VS) (q : List UInt8) (M : List (List UInt8)) (x : Option Nat) : VS × Nat := match x with
 | some i => (M.foldl VS.addDir s, i)
 | none => ((M.foldl VS.addDir s).addFile q [], (M.foldl VS.addDir s).F.length)
def VS.trunc (s : VS) (i : Nat) : VS := { s with F := s.F.set i (s.pth i, []), by_ := s.by_ - s.len i }
def VS.slotI (s : VS) : Nat := (s.H.findIdx? Option.isNone).getD s.H.length
def VS.grab (s : VS) (i m : Nat) : VS := { s with H := (if s.slotI < s.H.length then s.H.set s.slotI (some (i, 0, m)) else s.H ++ [some (i, 0, m)]), op := s.op + 1 }
def VS.cutI (s : VS) (m i : Nat) : VS := if m % 4 = 2 then s.trunc i else s
def VS.open (s : VS) (p : List UInt8) (mode : Int) : Int × Int × VS :=
 if mode < 0 ∨ 7 < mode ∨ mode = 4 then (0, 94, s) else
 if cleanE p ≠ 0 then (0, cleanE p, s) else
 if cleanS p = [] then (0, 92, s) else
 if (s.way (decide (4 ≤ mode)) (upsF [] (cleanS p)) []).2 ≠ 0 then (0, (s.way (decide (4 ≤ mode)) (upsF [] (cleanS p)) []).2, s) else
 if s.mayO (cleanS p) (s.file (cleanS p)) mode (s.way (decide (4 ≤ mode)) (upsF [] (cleanS p)) []).1 ≠ 0 then (0, s.mayO (cleanS p) (s.file (cleanS p)) mode (s.way (decide (4 ≤ mode)) (upsF [] (cleanS p)) []).1, s) else
 let a := s.put1 (cleanS p) (s.way (decide (4 ≤ mode)) (upsF [] (cleanS p)) []).1 (s.file (cleanS p))
 ((a.1.cutI mode.toNat a.2).slotI, 0, (a.1.cutI mode.toNat a.2).grab a.2 (mode.toNat % 4))
/-- How the files are kept, whatever is done. -/
structure VS.Sane (s : VS) : Prop where
 ok : s.Ok
 root : (s.dir []).isSome
 cnt : ∀ e ∈ s.D, e.2 ≤ s.D.length + s.F.length
 lim : s.F.length + s.D.length ≤ 65536
 sum : s.by_ = (s.F.map (·.2.length)).sum
 hl : s.H.length ≤ 64
 op : s.op = (s.H.filter Option.isSome).length
 fi : ∀ i pl mo, some (i, pl, mo) ∈ s.H → i < s.F.length
theorem addDir_F (s : VS) (d : List UInt8) : (s.addDir d).F = s.F ∧ (s.addDir d).by_ = s.by_ ∧ (s.addDir d).H = s.H ∧ (s.addDir d).op = s.op ∧ (s.addDir d).qb = s.qb ∧ (s.addDir d).qf = s.qf ∧ (s.addDir d).qo = s.qo := by
 unfold VS.addDir
 split <;> exact ⟨rfl, rfl, rfl, rfl, rfl, rfl, rfl⟩
theorem foldDir_F : ∀ (M : List (List UInt8)) (s : VS), (M.foldl VS.addDir s).F = s.F ∧ (M.foldl VS.addDir s).by_ = s.by_ ∧ (M.foldl VS.addDir s).H = s.H ∧ (M.foldl VS.addDir s).op = s.op ∧ (M.foldl VS.addDir s).qb = s.qb ∧ (M.foldl VS.addDir s).qf = s.qf ∧ (M.foldl VS.addDir s).qo = s.qo
 | [], s => ⟨rfl, rfl, rfl, rfl, rfl, rfl, rfl⟩
 | d :: M, s => by
  have hobt := addDir_F s d
  obtain ⟨a1, a2, a3, a4, a5, a6, a7⟩ := hobt
  have hobt := foldDir_F M (s.addDir d)
  obtain ⟨b1, b2, b3, b4, b5, b6, b7⟩ := hobt
  rw [List.foldl_cons]
  exact ⟨b1.trans a1, b2.trans a2, b3.trans a3, b4.trans a4, b5.trans a5, b6.trans a6, b7.trans a7⟩
theorem bump_mem {s : VS} {j : Nat} {e : List UInt8 × Nat} (h : e ∈ (s.bump j).D) : ∃ e0 ∈ s.D, e.1 = e0.1 ∧ e.2 ≤ e0.2 + 1 := by
 have hobt := List.mem_iff_getElem?.1 h
 obtain ⟨i, hi⟩ := hobt
 have h2 : ((s.D.modify j fun e => (e.1, e.2 + 1))[i]?) = some e := hi
 rw [List.getElem?_modify] at h2
 cases hx : s.D[i]? with
 | none => rw [hx] at h2; simp at h2
 | some e0 =>
  rw [hx] at h2
  refine ⟨e0, List.mem_of_getElem? hx, ?_⟩
  split at h2
  ·simp at h2
   rw [← h2]
   exact ⟨rfl, Nat.le_refl _⟩
  ·simp at h2
   rw [← h2]
   exact ⟨rfl, by omega⟩
theorem bump_len (s : VS) (j : Nat) : (s.bump j).D.length = s.D.length := by simp [VS.bump]
theorem cnt_addDir {s : VS} {d : List UInt8} (h : ∀ e ∈ s.D, e.2 ≤ s.D.length + s.F.length) (hp : (s.dir (splitR d).1).isSome) : (∀ e ∈ (s.addDir d).D, e.2 ≤ (s.addDir d).D.length + (s.addDir d).F.length) ∧ (s.addDir d).D.length = s.D.length + 1 := by
 have hobt := Option.isSome_iff_exists.1 hp
 obtain ⟨j, hj⟩ := hobt
 have e : s.addDir d = { s.bump j with D := (s.bump j).D ++ [(d, 0)] } := by unfold VS.addDir; rw [hj]
 have hl : (s.addDir d).D.length = s.D.length + 1 := by rw [e]; simp [VS.bump]
 refine ⟨fun x hx => ?_, hl⟩
 rw [hl, (addDir_F s d).1]
 rw [e] at hx
 rcases List.mem_append.1 hx with h1 | h1
 ·have hobt := bump_mem h1
  obtain ⟨e0, h2, _, h3⟩ := hobt
  have := h e0 h2
  omega
 ·rw [List.mem_singleton.1 h1]
  exact Nat.zero_le _
/-- Directories made, one after the other. -/
theorem made_fold : ∀ (M : List (List UInt8)) (s : VS), Made s M → (∀ e ∈ s.D, e.2 ≤ s.D.length + s.F.length) → (∀ e ∈ (M.foldl VS.addDir s).D, e.2 ≤ (M.foldl VS.addDir s).D.length + (M.foldl VS.addDir s).F.length) ∧ (M.foldl VS.addDir s).D.length = s.D.length + M.length ∧ (∀ u, (s.dir u).isSome → ((M.foldl VS.addDir s).dir u).isSome) ∧ ∀ u ∈ M, ((M.foldl VS.addDir s).dir u).isSome
 | [], s, _, h => ⟨h, rfl, fun u hu => hu, fun u hu => by cases hu⟩
 | d :: M, s, ⟨h1, h2, h3⟩, h => by
  have hobt := cnt_addDir h h1
  obtain ⟨c1, c2⟩ := hobt
  have hobt := made_fold M (s.addDir d) h3 c1
  obtain ⟨i1, i2, i3, i4⟩ := hobt
  rw [List.foldl_cons]
  have hk : ∀ u, (s.dir u).isSome → ((s.addDir d).dir u).isSome := fun u hu => by rw [dir_addDir h1, if_pos hu]; exact hu
  refine ⟨i1, by rw [i2, c2, List.length_cons]; omega, fun u hu => i3 u (hk u hu), fun u hu => ?_⟩
  rcases List.mem_cons.1 hu with e | e
  ·rw [e]
   refine i3 d ?_
   rw [dir_addDir h1, h2]
   simp
  ·exact i4 u e
end Go.Gx
/-! Vs16 -/
namespace Go.Gx
open Go.Proofs Go.Proofs.Tryz
section
variable {P : Program} {n : Nat} {f : Slots} {ds : List Deferred} {w : World}
/-- A sequence with what holds between. -/
theorem CW.seqM {Q : Post} {x y : Code} (M : Slots → World → Prop) (h : CW P x (thenC (fun f' ds' w' => ds' = ds ∧ M f' w') Q) n f ds w) (hr : ∀ f' w', M f' w' → CW P y Q n f' ds w') : CW P (.seq x y) Q n f ds w :=
 CW.seq (h.mono fun e f' ds' w' hq => by
  cases e with
  | normal =>
   obtain ⟨rfl, hM⟩ := hq
   exact hr _ _ hM
  | exit id => exact hq
  | goto id => exact hq
  | ret => exact hq
  | panic ch => exact hq
  | outgrown => exact hq)
end
theorem Step.zero {S : List Nat} {L : List (Nat × Obj)} {w0 w : World} (hs : Step S L w0 w) (h0 : 0 ∉ S) (hg : Gl w0) : 0 ∉ L.map (·.1) := fun hm => by
 have hobt := List.mem_map.1 hm
 obtain ⟨p, hp, e⟩ := hobt
 have h1 := hs.new p hp
 have h2 := hg.pos
 rcases h1 with h1 | h1
 ·exact h0 (by rw [← e]; exact h1)
 ·rw [e] at h1
  omega
theorem clean_isClean {s : List UInt8} (h : cleanE s = 0) : isCleanL (cleanS s) = true := by
 by_cases hbig : 4096 < s.length
 ·have hc := clean_err (s := s) (e := 2) (by unfold cleanR; rw [if_pos hbig])
  rw [hc.2] at h
  exact absurd h (by decide)
 ·cases hgo : cleanGo (partsL s) [] with
  | error e =>
   have hc := clean_err (s := s) (e := e) (by unfold cleanR; rw [if_neg hbig, hgo])
   rw [hc.2] at h
   exact absurd h (cleanGo_err hgo)
  | ok row =>
   by_cases h32 : 32 < row.length
   ·have hc := clean_err (s := s) (e := 33) (by unfold cleanR; rw [if_neg hbig, hgo]; exact if_pos h32)
    rw [hc.2] at h
    exact absurd h (by decide)
   ·have hc := clean_ok (s := s) (p := joinL row) (by unfold cleanR; rw [if_neg hbig, hgo]; exact if_neg h32)
    rw [hc.1]
    exact (named_clean (cleanGo_named (fun p hp => by cases hp) hgo) (by omega)).1
theorem ups_le : ∀ (t pre u : List UInt8), u ∈ upsF pre t → u.length ≤ pre.length + t.length
 | [], pre, u, h => by rw [upsF] at h; cases h
 | c :: t, pre, u, h => by
  rw [upsF] at h
  have e : (pre ++ [c]).length = pre.length + 1 := by simp
  split at h
  ·rcases List.mem_cons.1 h with h1 | h1
   ·rw [h1]; exact Nat.le_add_right _ _
   ·have := ups_le t (pre ++ [c]) u h1
    rw [List.length_cons]
    omega
  ·have := ups_le t (pre ++ [c]) u h
   rw [List.length_cons]
   omega
def bVal (bs : List Nat) : Option Nat → Value
 | none => .pointer none
 | some i => .pointer ((bs[i]?).map fun b => ⟨b, 0, none⟩)
theorem fVal_b (Fs : List FB) (x : Option Nat) : fVal Fs x = bVal (Fs.map (·.b)) x := by
 cases x with
 | none => rfl
 | some i =>
  simp only [fVal, bVal, List.getElem?_map]
  cases Fs[i]? <;> rfl
theorem file_foldDir : ∀ (M : List (List UInt8)) (s : VS) (u : List UInt8), (M.foldl VS.addDir s).file u = s.file u := fun M s u => by
 unfold VS.file
 rw [(foldDir_F M s).1]
theorem file_addFile {s : VS} {d x : List UInt8} (h : (s.dir (splitR d).1).isSome) (hn : s.file d = none) : (s.addFile d x).file d = some s.F.length ∧ (s.addFile d x).F = s.F ++ [(d, x)] ∧ (s.addFile d x).by_ = s.by_ + x.length := by
 have hobt := Option.isSome_iff_exists.1 h
 obtain ⟨j, hj⟩ := hobt
 have e : s.addFile d x = { s.bump j with F := s.F ++ [(d, x)], by_ := s.by_ + x.length } := by unfold VS.addFile; rw [hj]
 have hn2 : s.F.findIdx? (fun e : List UInt8 × List UInt8 => decide (e.1 = d)) = none := hn
 refine ⟨?_, by rw [e], by rw [e]⟩
 have e2 : (s.addFile d x).file d = (s.F ++ [(d, x)]).findIdx? (fun e : List UInt8 × List UInt8 => decide (e.1 = d)) := by rw [e]; rfl
 rw [e2, List.findIdx?_append, hn2]
 simp [List.findIdx?_cons]
theorem len_le_sum : ∀ (l : List (List UInt8 × List UInt8)) (i : Nat), ((l[i]?).map (·.2.length)).getD 0 ≤ (l.map (·.2.length)).sum
 | [], i => by simp
 | a :: l, 0 => by simp
 | a :: l, i + 1 => by
  have := len_le_sum l i
  simp only [List.getElem?_cons_succ, List.map_cons, List.sum_cons]
  omega
theorem put1_len {s : VS} (hs : s.by_ = (s.F.map (·.2.length)).sum) {q : List UInt8} {M : List (List UInt8)} {x : Option Nat} (hx : s.file q = x) (hp : ((M.foldl VS.addDir s).dir (splitR q).1).isSome) : (s.put1 q M x).1.len (s.put1 q M x).2 ≤ (s.put1 q M x).1.by_ := by
 have hobt := foldDir_F M s
 obtain ⟨f1, f2, _⟩ := hobt
 cases x with
 | some i =>
  show (M.foldl VS.addDir s).len i ≤ (M.foldl VS.addDir s).by_
  unfold VS.len
  rw [f1, f2, hs]
  exact len_le_sum s.F i
 | none =>
  have hobt := file_addFile (x := []) hp (by rw [file_foldDir]; exact hx)
  obtain ⟨_, h2, h3⟩ := hobt
  show ((M.foldl VS.addDir s).addFile q []).len (M.foldl VS.addDir s).F.length ≤ ((M.foldl VS.addDir s).addFile q []).by_
  unfold VS.len
  rw [h2]
  simp
section
variable {α : Type}
theorem perm_h1 {x a b c : α} {l R : List α} : (x :: a :: b :: c :: (l ++ R)).Perm (l ++ (a :: b :: c :: x :: R)) := by
 classical
 exact List.perm_iff_count.2 fun y => by
  simp only [List.count_append, List.count_cons, List.count_nil]
  omega
theorem perm_h2 {x a b c : α} {l R : List α} : (l ++ (a :: b :: c :: x :: R)).Perm (a :: l ++ (b :: c :: x :: R)) := by
 classical
 exact List.perm_iff_count.2 fun y => by
  simp only [List.count_append, List.count_cons, List.count_nil, List.cons_append]
  omega
theorem perm_h3 {x a b c d : α} {R : List α} : (a :: d :: b :: c :: x :: R).Perm (x :: a :: d :: b :: c :: R) := by
 classical
 exact List.perm_iff_count.2 fun y => by
  simp only [List.count_append, List.count_cons, List.count_nil, List.cons_append]
  omega
theorem perm_h4 {a b c d : α} {R : List α} : (a :: b :: c :: d :: R).Perm (a :: d :: b :: c :: R) := by
 classical
 exact List.perm_iff_count.2 fun y => by
  simp only [List.count_append, List.count_cons, List.count_nil, List.cons_append]
  omega
theorem perm_cut {a b : α} {l R U : List α} : (a :: b :: ((l ++ R) ++ U)).Perm (l ++ (a :: b :: (R ++ U))) := by
 classical
 exact List.perm_iff_count.2 fun y => by
  simp only [List.count_append, List.count_cons, List.count_nil]
  omega
end
section
variable {bf mf md : Nat} {s : VS} {L Lh : List (Nat × Obj)} {vh : Value} {Fs : List FB} {Ds : List DB} {Hs : List (Option HB)} {w0 : World}
def restF (mf md : Nat) (Lh : List (Nat × Obj)) (Fs : List FB) (Ds : List DB) (Hs : List (Option HB)) (i : Nat) : List (Nat × Obj) := (mf, mapS (mapF Fs 0) Fs.length) :: (md, mapS (mapDi Ds 0) Ds.length) :: (Lh ++ ((Fs.eraseIdx i).flatMap FB.own ++ (Ds.flatMap DB.own ++ Hs.flatMap HB.own)))
theorem VOpen.openF (o : VOpen bf s L mf md vh Lh Fs Ds Hs) {i : Nat} {r : FB} (hr : Fs[i]? = some r) :
  L.Perm ((r.b, blk 67 [str r.p, r.v]) :: (bf, blk 61 (fsC mf md vh s)) :: (r.Lv ++ restF mf md Lh Fs Ds Hs i)) := by
 classical
 have h1 := flat_open (f := FB.own) hr
 rw [o.L]
 refine List.perm_iff_count.2 fun x => ?_
 have e1 := h1.count_eq x
 simp only [restF, FB.own, List.count_append, List.count_cons, List.count_nil] at e1 ⊢
 omega
/-- A file made empty. -/
theorem VOpen.setF (o : VOpen bf s L mf md vh Lh Fs Ds Hs) {i : Nat} {r : FB} (hr : Fs[i]? = some r) :
  ∃ L', VOpen bf (s.trunc i) L' mf md vh Lh (Fs.set i { r with v := .slice none 0 0, x := [], Lv := [] }) Ds Hs ∧ ((r.b, blk 67 [str r.p, .slice none 0 0]) :: (bf, blk 61 (fsC mf md vh (s.trunc i))) :: restF mf md Lh Fs Ds Hs i).Perm L' := by
 classical
 have hlr := (List.getElem?_eq_some_iff.1 hr).1
 let r2 : FB := { r with v := .slice none 0 0, x := [], Lv := [] }
 have h1 := flat_shut (f := FB.own) (a := r2) hlr
 refine ⟨_, ⟨rfl, o.vh, ?_, ?_, ?_, o.D, o.H⟩, ?_⟩
 ·intro c hc
  rcases List.mem_or_eq_of_mem_set hc with h | h
  ·exact o.fs c h
  ·subst h
   exact .nil _ _
 ·intro h hm
  have hobt := o.hs h hm
  obtain ⟨r', e1, e2⟩ := hobt
  by_cases he : i = h.i
  ·rw [← he] at e1 ⊢
   rw [hr] at e1
   cases e1
   exact ⟨r2, List.getElem?_set_self hlr, e2⟩
  ·exact ⟨r', by rw [List.getElem?_set_ne he]; exact e1, e2⟩
 ·show (Fs.set i r2).map _ = s.F.set i _
  rw [List.map_set, o.F, o.pth_ hr]
 ·refine List.perm_iff_count.2 fun x => ?_
  have e1 := h1.count_eq x
  have e3 : mapF (Fs.set i { r with v := .slice none 0 0, x := [], Lv := [] }) 0 = mapF Fs 0 := mapF_set Fs 0 i r r2 hr rfl rfl
  simp only [restF, FB.own, fsC, VS.trunc, List.count_append, List.count_cons, List.count_nil, List.length_set, e3] at e1 ⊢
  simp only [r2, List.count_nil] at e1 ⊢
  omega
theorem flat_none {Hs : List (Option HB)} {k : Nat} (h : Hs[k]? = some none) (hb : HB) : ((Hs.set k (some hb)).flatMap HB.own).Perm ((hb.b, blk 77 [.pointer (some ⟨hb.fb, 0, none⟩), .int .i64 (hb.pl : Nat), .int .i64 (hb.mo : Nat)]) :: Hs.flatMap HB.own) := by
 have hl := (List.getElem?_eq_some_iff.1 h).1
 have h1 := flat_shut (f := HB.own) (a := some hb) hl
 have h2 := flat_open (f := HB.own) h
 refine h1.symm.trans ?_
 exact List.Perm.cons _ (h2.symm.trans (List.Perm.refl _))
/-- A handle laid where there is none. -/
theorem VOpen.grabH (o : VOpen bf s L mf md vh Lh Fs Ds Hs) {Hs2 : List (Option HB)} {k i b bn bl cap mo : Nat} {more : List Value} {r : FB} (hr : Fs[i]? = some r) (hH2 : Hs2 = Hs ∨ Hs2 = Hs ++ [none] ∧ k = Hs.length) (hk : Hs2[k]? = some none) (hks : k = s.slotI) (hcap : (Hs2.map HB.val ++ more).length = cap * 1) {L'' : List (Nat × Obj)}
  (hL : L''.Perm ((bn, blk 77 [.pointer (some ⟨r.b, 0, none⟩), .int .i64 ((0 : Nat) : Int), .int .i64 (mo : Nat)]) :: (bf, blk 61 (fsC mf md (.slice (some ⟨bl, 0, none⟩) Hs2.length cap) { s with op := s.op + 1 })) :: (bl, blk 75 ((Hs2.map HB.val).set k (.pointer (some ⟨bn, 0, none⟩)) ++ more)) :: (mf, mapS (mapF Fs 0) Fs.length) :: (md, mapS (mapDi Ds 0) Ds.length) :: (Fs.flatMap FB.own ++ (Ds.flatMap DB.own ++ Hs.flatMap HB.own)))) :
  ∃ L', VRep bf (s.grab i mo) L' ∧ L''.Perm L' := by
 classical
 let hb : HB := ⟨bn, r.b, i, 0, mo⟩
 have hlt := (List.getElem?_eq_some_iff.1 hk).1
 have h1 := flat_none hk hb
 have hfl : Hs2.flatMap HB.own = Hs.flatMap HB.own := by
  rcases hH2 with h | ⟨h, _⟩
  ·rw [h]
  ·rw [h, List.flatMap_append]; simp [HB.own]
 have hHl : Hs.length = s.H.length := by rw [← o.H, List.length_map]
 refine ⟨_, ⟨mf, md, .slice (some ⟨bl, 0, none⟩) Hs2.length cap, [(bl, blk 75 ((Hs2.set k (some hb)).map HB.val ++ more))], Fs, Ds, Hs2.set k (some hb), ⟨rfl, ?_, o.fs, ?_, o.F, o.D, ?_⟩⟩, hL.trans ?_⟩
 ·rw [List.length_set]
  refine ⟨by simp, .inr ⟨bl, cap, more, rfl, rfl, ?_⟩⟩
  rw [← hcap, List.length_append, List.length_append, List.length_map, List.length_map, List.length_set]
 ·intro h hm
  rcases List.mem_or_eq_of_mem_set hm with h2 | h2
  ·rcases hH2 with e | ⟨e, _⟩
   ·exact o.hs h (e ▸ h2)
   ·rw [e] at h2
    rcases List.mem_append.1 h2 with h3 | h3
    ·exact o.hs h h3
    ·simp at h3
  ·cases h2
   exact ⟨r, hr, rfl⟩
 ·have hgr : (s.grab i mo).H = if k < s.H.length then s.H.set k (some (i, 0, mo)) else s.H ++ [some (i, 0, mo)] := by rw [hks]; rfl
  rw [hgr, List.map_set]
  rcases hH2 with e | ⟨e, ek⟩
  ·rw [e] at hlt ⊢
   rw [if_pos (by omega), o.H]
   rfl
  ·rw [if_neg (by omega), e, List.map_append, o.H, ek, hHl, List.set_append_right _ _ (Nat.le_refl _)]
   simp [hb]
 ·refine List.perm_iff_count.2 fun x => ?_
  have e1 := h1.count_eq x
  rw [hfl] at e1
  have e2 : (Hs2.set k (some hb)).map HB.val = (Hs2.map HB.val).set k (.pointer (some ⟨bn, 0, none⟩)) := by rw [List.map_set]; rfl
  simp only [e2, fsC, VS.grab, List.count_append, List.count_cons, List.count_nil, List.length_set] at e1 ⊢
  simp only [hb] at e1 ⊢
  omega
end
end Go.Gx
/-! Vs17 -/
namespace Go.Gx
open Go.Proofs Go.Proofs.Tryz
set_option maxRecDepth 100000
theorem bld_itD (d : List UInt8) (w : World) : (Instr.build 56 #[(0, str d), (1, .bool true)]).run Tryz.prog w = .ok (.agg (itC d true (.slice none 0 0)).toArray) w := by kernel_rfl
theorem bld_itF (d : List UInt8) (w : World) : (Instr.build 56 #[(0, str d)]).run Tryz.prog w = .ok (.agg (itC d false (.slice none 0 0)).toArray) w := by kernel_rfl
theorem bld_hdl (b : Addr) (m : Nat) (w : World) : (Instr.build 77 #[(0, .pointer (some b)), (2, .int .i64 (m : Nat))]).run Tryz.prog w = .ok (.agg #[.pointer (some b), .int .i64 ((0 : Nat) : Int), .int .i64 (m : Nat)]) w := by kernel_rfl
section
variable {bf : Nat} {s : VS} {L : List (Nat × Obj)} {w0 : World}
set_option maxHeartbeats 8000000 in
theorem open_spec (hR : VRep bf s L) (sn : s.Sane) (hg : Gl w0) (h0 : 0 ∉ L.map (·.1)) (hw : Step (L.map (·.1)) L w0 w0) {p : List UInt8} (hp : p.length ≤ 9223372036854775807) {mode : Int} : Calls Tryz.prog 14 #[.pointer (some ⟨bf, 0, none⟩), str p, .int .i64 mode] w0 fun e w' => ∃ L', e = .returned (.tuple #[.int .i64 (s.open p mode).1, .int .i64 (s.open p mode).2.1]) ∧ VRep bf (s.open p mode).2.2 L' ∧ Step (L.map (·.1)) L' w0 w' := by
 have hR0 := hR
 obtain ⟨mf, md, vh, Lh, Fs, Ds, Hs, o⟩ := hR
 have hs : Step (L.map (·.1)) L w0 w0 := hw
 have hobt : ∃ S, L.map (·.1) = S := ⟨_, rfl⟩
 obtain ⟨S, hS⟩ := hobt
 rw [hS] at hs h0 ⊢
 by_cases hbad : mode < 0 ∨ 7 < mode ∨ mode = 4
 ·rw [show s.open p mode = (0, 94, s) by unfold VS.open; rw [if_pos hbad]]
  by_cases h1 : mode < 0
  ·refine calls (n := 143) Tryz.func14 rfl rfl rfl ?_
   refine cQ <| cR <| wa rfl <| wa rfl <| wZ <| cQ <| cQ <| cR <| wm rfl <| wV rfl (run_bT (run_lss rfl rfl) (by omega)) <| wm rfl <| WL.no rfl rfl rfl (.inl rfl) <| WL.no rfl rfl rfl (.inl rfl) <| wV rfl (run_pickT rfl) <| wm rfl <| WL.no rfl rfl rfl (.inl rfl) <| WL.no rfl rfl rfl (.inl rfl) <| wV rfl (run_pickT rfl) <| wZ ?_
   refine cC rfl (fun h => ?_) (fun h => ?_)
   ·refine cQ <| cR <| wa rfl <| wa rfl <| wZ ?_
    refine CW.ret ?_
    refine fin_ret2 rfl ?_
    exact ⟨L, rfl, hR0, hs⟩
   ·cases h
  ·by_cases h2 : 7 < mode
   ·refine calls (n := 143) Tryz.func14 rfl rfl rfl ?_
    refine cQ <| cR <| wa rfl <| wa rfl <| wZ <| cQ <| cQ <| cR <| wm rfl <| wV rfl (run_bF (run_lss rfl rfl) (by omega)) <| wm rfl <| WL.yes rfl rfl rfl <| wm rfl <| WL.yes rfl rfl rfl <| wV rfl (run_bT (run_gtr rfl rfl) (by omega)) <| wV rfl (run_pickF rfl) <| wm rfl <| WL.no rfl rfl rfl (.inl rfl) <| WL.no rfl rfl rfl (.inl rfl) <| wV rfl (run_pickT rfl) <| wZ ?_
    refine cC rfl (fun h => ?_) (fun h => ?_)
    ·refine cQ <| cR <| wa rfl <| wa rfl <| wZ ?_
     refine CW.ret ?_
     refine fin_ret2 rfl ?_
     exact ⟨L, rfl, hR0, hs⟩
    ·cases h
   ·refine calls (n := 143) Tryz.func14 rfl rfl rfl ?_
    refine cQ <| cR <| wa rfl <| wa rfl <| wZ <| cQ <| cQ <| cR <| wm rfl <| wV rfl (run_bF (run_lss rfl rfl) (by omega)) <| wm rfl <| WL.yes rfl rfl rfl <| wm rfl <| WL.yes rfl rfl rfl <| wV rfl (run_bF (run_gtr rfl rfl) (by omega)) <| wV rfl (run_pickF rfl) <| wm rfl <| WL.yes rfl rfl rfl <| wm rfl <| WL.yes rfl rfl rfl <| wV rfl (run_bT (run_eql rfl rfl) (by omega)) <| wV rfl (run_pickF rfl) <| wZ ?_
    refine cC rfl (fun h => ?_) (fun h => ?_)
    ·refine cQ <| cR <| wa rfl <| wa rfl <| wZ ?_
     refine CW.ret ?_
     refine fin_ret2 rfl ?_
     exact ⟨L, rfl, hR0, hs⟩
    ·cases h
 have hobt : ∃ m : Nat, mode = m := ⟨mode.toNat, by omega⟩
 obtain ⟨m, rfl⟩ := hobt
 have hm8 : m < 8 := by omega
 have hcl := fun {w} hg => clean_spec (s := p) w hg hp
 have hcc := clean_isClean (s := p)
 have hop0 : s.open p (m : Nat) = if cleanE p ≠ 0 then (0, cleanE p, s) else if cleanS p = [] then (0, 92, s) else
   if (s.way (decide (4 ≤ (m : Int))) (upsF [] (cleanS p)) []).2 ≠ 0 then (0, (s.way (decide (4 ≤ (m : Int))) (upsF [] (cleanS p)) []).2, s) else
   if s.mayO (cleanS p) (s.file (cleanS p)) (m : Int) (s.way (decide (4 ≤ (m : Int))) (upsF [] (cleanS p)) []).1 ≠ 0 then (0, s.mayO (cleanS p) (s.file (cleanS p)) (m : Int) (s.way (decide (4 ≤ (m : Int))) (upsF [] (cleanS p)) []).1, s) else
   (((((s.put1 (cleanS p) (s.way (decide (4 ≤ (m : Int))) (upsF [] (cleanS p)) []).1 (s.file (cleanS p))).1.cutI m (s.put1 (cleanS p) (s.way (decide (4 ≤ (m : Int))) (upsF [] (cleanS p)) []).1 (s.file (cleanS p))).2).slotI : Nat) : Int), 0, ((s.put1 (cleanS p) (s.way (decide (4 ≤ (m : Int))) (upsF [] (cleanS p)) []).1 (s.file (cleanS p))).1.cutI m (s.put1 (cleanS p) (s.way (decide (4 ≤ (m : Int))) (upsF [] (cleanS p)) []).1 (s.file (cleanS p))).2).grab (s.put1 (cleanS p) (s.way (decide (4 ≤ (m : Int))) (upsF [] (cleanS p)) []).1 (s.file (cleanS p))).2 (m % 4)) := by
  unfold VS.open
  rw [if_neg hbad, Int.toNat_natCast]
 have hmend : decide (4 ≤ (m : Int)) = decide (((if 4 ≤ m then 4 else 0 : Nat) : Int) ≠ 0) := by
  by_cases h4 : 4 ≤ m
  ·rw [if_pos h4]
   have : (4 : Int) ≤ m := by omega
   simp [this]
  ·rw [if_neg h4]
   have : ¬ (4 : Int) ≤ m := by omega
   simp [this]
 rw [hmend] at hop0
 rw [hop0]
 clear hop0
 have hobt : ∃ q, cleanS p = q := ⟨_, rfl⟩
 obtain ⟨q, hq⟩ := hobt
 have hobt : ∃ ce, cleanE p = ce := ⟨_, rfl⟩
 obtain ⟨ce, hce⟩ := hobt
 rw [hq, hce] at hcc
 simp only [hq, hce] at hcl ⊢
 by_cases hce0 : ce ≠ 0
 ·rw [if_pos hce0]
  refine calls (n := 143) Tryz.func14 rfl rfl rfl ?_
  refine cQ <| cR <| wa rfl <| wa rfl <| wZ <| cQ <| cQ <| cR <| wm rfl <| wV rfl (run_bF (run_lss rfl rfl) (by omega)) <| wm rfl <| WL.yes rfl rfl rfl <| wm rfl <| WL.yes rfl rfl rfl <| wV rfl (run_bF (run_gtr rfl rfl) (by omega)) <| wV rfl (run_pickF rfl) <| wm rfl <| WL.yes rfl rfl rfl <| wm rfl <| WL.yes rfl rfl rfl <| wV rfl (run_bF (run_eql rfl rfl) (by omega)) <| wV rfl (run_pickF rfl) <| wZ ?_
  refine cC rfl (fun h => ?_) (fun h => ?_)
  ·cases h
  repeat (first | refine cQ ?_ | refine cK ?_)
  refine cR <| wm rfl ?_
  refine wE rfl (run_call en45 rfl rfl) (hcl (hg.stepS hs h0)) ?_
  rintro e w ⟨rfl, hq⟩
  refine ⟨_, rfl, ?_⟩
  replace hs := hs.callE hq
  refine wm rfl <| wx rfl rfl rfl <| wx rfl rfl rfl <| wa rfl <| wa rfl <| wZ <| cQ <| cQ <| cR <| wm rfl <| wV rfl (run_bT (run_neq rfl rfl) (by exact hce0)) <| wZ ?_
  refine cC rfl (fun h => ?_) (fun h => ?_)
  ·refine cQ <| cR <| wm rfl <| wa rfl <| wa rfl <| wZ ?_
   refine CW.ret ?_
   refine fin_ret2 rfl ?_
   exact ⟨L, rfl, hR0, hs⟩
  ·cases h
 rw [if_neg hce0]
 by_cases hq0 : q = []
 ·rw [if_pos hq0]
  refine calls (n := 143) Tryz.func14 rfl rfl rfl ?_
  refine cQ <| cR <| wa rfl <| wa rfl <| wZ <| cQ <| cQ <| cR <| wm rfl <| wV rfl (run_bF (run_lss rfl rfl) (by omega)) <| wm rfl <| WL.yes rfl rfl rfl <| wm rfl <| WL.yes rfl rfl rfl <| wV rfl (run_bF (run_gtr rfl rfl) (by omega)) <| wV rfl (run_pickF rfl) <| wm rfl <| WL.yes rfl rfl rfl <| wm rfl <| WL.yes rfl rfl rfl <| wV rfl (run_bF (run_eql rfl rfl) (by omega)) <| wV rfl (run_pickF rfl) <| wZ ?_
  refine cC rfl (fun h => ?_) (fun h => ?_)
  ·cases h
  repeat (first | refine cQ ?_ | refine cK ?_)
  refine cR <| wm rfl ?_
  refine wE rfl (run_call en45 rfl rfl) (hcl (hg.stepS hs h0)) ?_
  rintro e w ⟨rfl, hq⟩
  refine ⟨_, rfl, ?_⟩
  replace hs := hs.callE hq
  refine wm rfl <| wx rfl rfl rfl <| wx rfl rfl rfl <| wa rfl <| wa rfl <| wZ <| cQ <| cQ <| cR <| wm rfl <| wV rfl (run_bF (run_neq rfl rfl) (by exact hce0)) <| wZ ?_
  refine cC rfl (fun h => ?_) (fun h => ?_)
  ·cases h
  repeat (first | refine cQ ?_ | refine cK ?_)
  refine cR <| wm rfl <| wV rfl (run_bT (run_strEq rfl rfl) (by exact hq0)) <| wZ ?_
  refine cC rfl (fun h => ?_) (fun h => ?_)
  ·refine cQ <| cR <| wa rfl <| wa rfl <| wZ ?_
   refine CW.ret ?_
   refine fin_ret2 rfl ?_
   exact ⟨L, rfl, hR0, hs⟩
  ·cases h
 rw [if_neg hq0]
 replace hcc := hcc (by omega)
 have hql := clean_len hcc
 have hwy := fun {w} hw => way_spec (w0 := w) (p := q) (mend := decide (((if 4 ≤ m then 4 else 0 : Nat) : Int) ≠ 0)) o hw (by omega)
 have hobt : ∃ M ew, s.way (decide (((if 4 ≤ m then 4 else 0 : Nat) : Int) ≠ 0)) (upsF [] q) [] = (M, ew) := ⟨_, _, rfl⟩
 obtain ⟨M, ew, hW⟩ := hobt
 simp only [hW] at hwy ⊢
 by_cases hew : ew ≠ 0
 ·rw [if_pos hew]
  refine calls (n := 143) Tryz.func14 rfl rfl rfl ?_
  refine cQ <| cR <| wa rfl <| wa rfl <| wZ <| cQ <| cQ <| cR <| wm rfl <| wV rfl (run_bF (run_lss rfl rfl) (by omega)) <| wm rfl <| WL.yes rfl rfl rfl <| wm rfl <| WL.yes rfl rfl rfl <| wV rfl (run_bF (run_gtr rfl rfl) (by omega)) <| wV rfl (run_pickF rfl) <| wm rfl <| WL.yes rfl rfl rfl <| wm rfl <| WL.yes rfl rfl rfl <| wV rfl (run_bF (run_eql rfl rfl) (by omega)) <| wV rfl (run_pickF rfl) <| wZ ?_
  refine cC rfl (fun h => ?_) (fun h => ?_)
  ·cases h
  repeat (first | refine cQ ?_ | refine cK ?_)
  refine cR <| wm rfl ?_
  refine wE rfl (run_call en45 rfl rfl) (hcl (hg.stepS hs h0)) ?_
  rintro e w ⟨rfl, hq⟩
  refine ⟨_, rfl, ?_⟩
  replace hs := hs.callE hq
  refine wm rfl <| wx rfl rfl rfl <| wx rfl rfl rfl <| wa rfl <| wa rfl <| wZ <| cQ <| cQ <| cR <| wm rfl <| wV rfl (run_bF (run_neq rfl rfl) (by exact hce0)) <| wZ ?_
  refine cC rfl (fun h => ?_) (fun h => ?_)
  ·cases h
  repeat (first | refine cQ ?_ | refine cK ?_)
  refine cR <| wm rfl <| wV rfl (run_bF (run_strEq rfl rfl) (by exact hq0)) <| wZ ?_
  refine cC rfl (fun h => ?_) (fun h => ?_)
  ·cases h
  repeat (first | refine cQ ?_ | refine cK ?_)
  refine cR <| wm rfl <| wm rfl <| wm rfl <| wV rfl (run_and4 hm8 rfl rfl) <| wV rfl (run_neq rfl rfl) ?_
  refine wE rfl (run_call en46 rfl rfl) (hwy hs.has) ?_
  rintro e w ⟨u, Lu, rfl, hu, hqq⟩
  refine ⟨_, rfl, ?_⟩
  have hobt := hu.form
  obtain ⟨au, cu, rfl⟩ := hobt
  replace hs := hs.call0 hqq
  refine wm rfl <| wx rfl rfl rfl <| wx rfl rfl rfl <| wa rfl <| wa rfl <| wZ <| cQ <| cQ <| cR <| wm rfl <| wV rfl (run_bT (run_neq rfl rfl) (by exact hew)) <| wZ ?_
  refine cC rfl (fun h => ?_) (fun h => ?_)
  ·refine cQ <| cR <| wm rfl <| wa rfl <| wa rfl <| wZ ?_
   refine CW.ret ?_
   refine fin_ret2 rfl ?_
   exact ⟨L, rfl, hR0, hs.dropL⟩
  ·cases h
 rw [if_neg hew]
 obtain rfl : ew = 0 := Classical.byContradiction hew
 have hMf := way_ok hW
 rw [List.nil_append] at hMf
 have hMl : M.length ≤ 4096 := by
  have h1 := ups_len q []
  have h2 := List.length_filter_le (fun u => (s.dir u).isNone) (upsF [] q)
  rw [hMf]
  omega
 have hMd : ∀ d ∈ M, d.length ≤ 4096 := fun d hd => by
  rw [hMf] at hd
  have h3 := ups_le q [] d ((List.mem_filter.1 hd).1)
  have h4 : ([] : List UInt8).length = 0 := rfl
  omega
 have hobt := way_made hcc hq0 sn.root hW
 obtain ⟨hmade, hpar⟩ := hobt
 have hfst := way_first hcc hq0 sn.root hW
 have hobt : ∃ x, s.file q = x := ⟨_, rfl⟩
 obtain ⟨x, hx⟩ := hobt
 have hxl : ∀ i, x = some i → i < Fs.length := fun i hi => by
  have hobt := o.file_at (hx.trans hi)
  obtain ⟨r, hr, _⟩ := hobt
  exact (List.getElem?_eq_some_iff.1 hr).1
 have hfq : (firstL q M).length ≤ 9223372036854775807 := by
  unfold firstL
  cases M with
  | nil => show q.length ≤ _; omega
  | cons d l => have := hMd d (by simp); show d.length ≤ _; omega
 have hmy := fun {w vm} hg hw hm => mayO_spec (w0 := w) (p := q) (x := x) (mode := (m : Int)) (miss := M) (vm := vm) o sn.ok hg hw hm (by omega) hfq hxl (fun _ => hfst)
 have hlk := (o.lookF q).trans (congrArg (fVal Fs) hx)
 rw [hx]
 have hobt : ∃ me, s.mayO q x (m : Int) M = me := ⟨_, rfl⟩
 obtain ⟨me, hme⟩ := hobt
 simp only [hme] at hmy ⊢
 by_cases hme0 : me ≠ 0
 ·rw [if_pos hme0]
  refine calls (n := 143) Tryz.func14 rfl rfl rfl ?_
  refine cQ <| cR <| wa rfl <| wa rfl <| wZ <| cQ <| cQ <| cR <| wm rfl <| wV rfl (run_bF (run_lss rfl rfl) (by omega)) <| wm rfl <| WL.yes rfl rfl rfl <| wm rfl <| WL.yes rfl rfl rfl <| wV rfl (run_bF (run_gtr rfl rfl) (by omega)) <| wV rfl (run_pickF rfl) <| wm rfl <| WL.yes rfl rfl rfl <| wm rfl <| WL.yes rfl rfl rfl <| wV rfl (run_bF (run_eql rfl rfl) (by omega)) <| wV rfl (run_pickF rfl) <| wZ ?_
  refine cC rfl (fun h => ?_) (fun h => ?_)
  ·cases h
  repeat (first | refine cQ ?_ | refine cK ?_)
  refine cR <| wm rfl ?_
  refine wE rfl (run_call en45 rfl rfl) (hcl (hg.stepS hs h0)) ?_
  rintro e w ⟨rfl, hq⟩
  refine ⟨_, rfl, ?_⟩
  replace hs := hs.callE hq
  refine wm rfl <| wx rfl rfl rfl <| wx rfl rfl rfl <| wa rfl <| wa rfl <| wZ <| cQ <| cQ <| cR <| wm rfl <| wV rfl (run_bF (run_neq rfl rfl) (by exact hce0)) <| wZ ?_
  refine cC rfl (fun h => ?_) (fun h => ?_)
  ·cases h
  repeat (first | refine cQ ?_ | refine cK ?_)
  refine cR <| wm rfl <| wV rfl (run_bF (run_strEq rfl rfl) (by exact hq0)) <| wZ ?_
  refine cC rfl (fun h => ?_) (fun h => ?_)
  ·cases h
  repeat (first | refine cQ ?_ | refine cK ?_)
  refine cR <| wm rfl <| wm rfl <| wm rfl <| wV rfl (run_and4 hm8 rfl rfl) <| wV rfl (run_neq rfl rfl) ?_
  refine wE rfl (run_call en46 rfl rfl) (hwy hs.has) ?_
  rintro e w ⟨u, Lu, rfl, hu, hqq⟩
  refine ⟨_, rfl, ?_⟩
  have hobt := hu.form
  obtain ⟨au, cu, rfl⟩ := hobt
  replace hs := hs.call0 hqq
  refine wm rfl <| wx rfl rfl rfl <| wx rfl rfl rfl <| wa rfl <| wa rfl <| wZ <| cQ <| cQ <| cR <| wm rfl <| wV rfl (run_bF (run_neq rfl rfl) (by exact fun h => h rfl)) <| wZ ?_
  refine cC rfl (fun h => ?_) (fun h => ?_)
  ·cases h
  repeat (first | refine cQ ?_ | refine cK ?_)
  refine cR <| wm rfl <| wn rfl rfl <| wV rfl (run_field (o' := 0) underlying61 rfl ty57 rfl rfl rfl) <| wV rfl (run_load1 ty57 rfl ((o.at (hs.dropL.has)).cell (j := 0) rfl)) <| wm rfl <| wV rfl (run_lookupSE underlying57 underlying9 (zFile _) (hlk) rfl rfl (o.mf_ hs.dropL.has)) <| wa rfl <| wZ <| cQ <| cQ <| cR <| wm rfl <| wm rfl <| wm rfl <| wm rfl <| wm rfl ?_
  refine wE rfl (run_call en47 rfl rfl) (hmy (hg.stepS hs h0) hs.dropL.has (hu.sl hs)) ?_
  rintro e w ⟨rfl, hq⟩
  refine ⟨_, rfl, ?_⟩
  replace hs := hs.callE hq
  refine wa rfl <| wZ <| cQ <| cR <| wm rfl <| wV rfl (run_bT (run_neq rfl rfl) (by exact hme0)) <| wZ ?_
  refine cC rfl (fun h => ?_) (fun h => ?_)
  ·refine cQ <| cR <| wm rfl <| wa rfl <| wa rfl <| wZ ?_
   refine CW.ret ?_
   refine fin_ret2 rfl ?_
   exact ⟨L, rfl, hR0, hs.dropL⟩
  ·cases h
 rw [if_neg hme0]
 refine calls (n := 143) Tryz.func14 rfl rfl rfl ?_
 refine cQ <| cR <| wa rfl <| wa rfl <| wZ <| cQ <| cQ <| cR <| wm rfl <| wV rfl (run_bF (run_lss rfl rfl) (by omega)) <| wm rfl <| WL.yes rfl rfl rfl <| wm rfl <| WL.yes rfl rfl rfl <| wV rfl (run_bF (run_gtr rfl rfl) (by omega)) <| wV rfl (run_pickF rfl) <| wm rfl <| WL.yes rfl rfl rfl <| wm rfl <| WL.yes rfl rfl rfl <| wV rfl (run_bF (run_eql rfl rfl) (by omega)) <| wV rfl (run_pickF rfl) <| wZ ?_
 refine cC rfl (fun h => ?_) (fun h => ?_)
 ·cases h
 repeat (first | refine cQ ?_ | refine cK ?_)
 refine cR <| wm rfl ?_
 refine wE rfl (run_call en45 rfl rfl) (hcl (hg.stepS hs h0)) ?_
 rintro e w ⟨rfl, hq⟩
 refine ⟨_, rfl, ?_⟩
 replace hs := hs.callE hq
 refine wm rfl <| wx rfl rfl rfl <| wx rfl rfl rfl <| wa rfl <| wa rfl <| wZ <| cQ <| cQ <| cR <| wm rfl <| wV rfl (run_bF (run_neq rfl rfl) (by exact hce0)) <| wZ ?_
 refine cC rfl (fun h => ?_) (fun h => ?_)
 ·cases h
 repeat (first | refine cQ ?_ | refine cK ?_)
 refine cR <| wm rfl <| wV rfl (run_bF (run_strEq rfl rfl) (by exact hq0)) <| wZ ?_
 refine cC rfl (fun h => ?_) (fun h => ?_)
 ·cases h
 repeat (first | refine cQ ?_ | refine cK ?_)
 refine cR <| wm rfl <| wm rfl <| wm rfl <| wV rfl (run_and4 hm8 rfl rfl) <| wV rfl (run_neq rfl rfl) ?_
 refine wE rfl (run_call en46 rfl rfl) (hwy hs.has) ?_
 rintro e w ⟨u, Lu, rfl, hu, hqq⟩
 refine ⟨_, rfl, ?_⟩
 have hobt := hu.form
 obtain ⟨au, cu, rfl⟩ := hobt
 replace hs := hs.call0 hqq
 refine wm rfl <| wx rfl rfl rfl <| wx rfl rfl rfl <| wa rfl <| wa rfl <| wZ <| cQ <| cQ <| cR <| wm rfl <| wV rfl (run_bF (run_neq rfl rfl) (by exact fun h => h rfl)) <| wZ ?_
 refine cC rfl (fun h => ?_) (fun h => ?_)
 ·cases h
 repeat (first | refine cQ ?_ | refine cK ?_)
 refine cR <| wm rfl <| wn rfl rfl <| wV rfl (run_field (o' := 0) underlying61 rfl ty57 rfl rfl rfl) <| wV rfl (run_load1 ty57 rfl ((o.at (hs.dropL.has)).cell (j := 0) rfl)) <| wm rfl <| wV rfl (run_lookupSE underlying57 underlying9 (zFile _) (hlk) rfl rfl (o.mf_ hs.dropL.has)) <| wa rfl <| wZ <| cQ <| cQ <| cR <| wm rfl <| wm rfl <| wm rfl <| wm rfl <| wm rfl ?_
 refine wE rfl (run_call en47 rfl rfl) (hmy (hg.stepS hs h0) hs.dropL.has (hu.sl hs)) ?_
 rintro e w ⟨rfl, hq⟩
 refine ⟨_, rfl, ?_⟩
 replace hs := hs.callE hq
 refine wa rfl <| wZ <| cQ <| cR <| wm rfl <| wV rfl (run_bF (run_neq rfl rfl) (by exact hme0)) <| wZ ?_
 refine cC rfl (fun h => ?_) (fun h => ?_)
 ·cases h
 refine cK ?_
 refine CW.seqM (fun f w => ∃ L1, VRepF bf (M.foldl VS.addDir s) L1 (Fs.map (·.b)) ∧ Step S (L1 ++ Lu) w0 w ∧ Holds f [(0, .pointer (some ⟨bf, 0, none⟩)), (1, str q), (2, .int .i64 (m : Nat)), (10, bVal (Fs.map (·.b)) x)]) ?_ ?_
 ·refine cQ <| cR <| wm rfl <| wV rfl (run_lenSl underlying88 rfl) <| wm rfl <| wZ ?_
  replace hs := hs.append_comm
  refine CW.block ?_
  refine CW.loop (fun z f w' => ∃ i L1, i ≤ M.length ∧ z = M.length - i ∧ VRepF bf ((M.take i).foldl VS.addDir s) L1 (Fs.map (·.b)) ∧ Made ((M.take i).foldl VS.addDir s) (M.drop i) ∧ (∀ e ∈ ((M.take i).foldl VS.addDir s).D, e.2 ≤ ((M.take i).foldl VS.addDir s).D.length + ((M.take i).foldl VS.addDir s).F.length) ∧ ((M.take i).foldl VS.addDir s).D.length = s.D.length + i ∧ Step S (L1 ++ Lu) w0 w' ∧ Holds f [(0, .pointer (some ⟨bf, 0, none⟩)), (1, str q), (2, .int .i64 (m : Nat)), (10, bVal (Fs.map (·.b)) x), (62, .slice au M.length cu), (63, .int .i64 M.length), (64, .int .i64 i)]) (m := M.length) ?_ ?_
  ·exact ⟨0, L, by omega, by omega, ⟨mf, md, vh, Lh, Fs, Ds, Hs, o, rfl⟩, hmade, sn.cnt, rfl, hs, rfl, rfl, rfl, fVal_b Fs x, rfl, rfl, rfl, trivial⟩
  ·clear hs
   rintro z f w ⟨i, L1, hi, rfl, hR1, hmd, hcnt, hDl, hs, hf⟩
   have hobt := hf.chain
   obtain ⟨g, rfl⟩ := hobt
   have hFe : ((M.take i).foldl VS.addDir s).F.length = s.F.length := by rw [(foldDir_F (M.take i) s).1]
   have hlim := sn.lim
   by_cases hlt : i < M.length
   ·have hobt : ∃ d, M[i] = d := ⟨_, rfl⟩
    obtain ⟨d, hd⟩ := hobt
    have hdi : M[i]? = some d := by rw [List.getElem?_eq_getElem hlt, hd]
    have htk : M.take (i + 1) = M.take i ++ [d] := by rw [← List.take_append_getElem hlt, hd]
    have hfo : (M.take (i + 1)).foldl VS.addDir s = ((M.take i).foldl VS.addDir s).addDir d := by rw [htk, List.foldl_append]; rfl
    rw [List.drop_eq_getElem_cons hlt, hd] at hmd
    obtain ⟨hm1, hm2, hm3⟩ := hmd
    have hobt := Option.isSome_iff_exists.1 hm1
    obtain ⟨j, hj⟩ := hobt
    have hobt := cnt_addDir hcnt hm1
    obtain ⟨hc1, hc2⟩ := hobt
    have hdl := hMd d (List.mem_of_getElem? hdi)
    have hsm := hu.some1 (by omega)
    obtain ⟨bp, cp, more, hq1, hqL, hcp⟩ := hsm
    injection hq1 with hq1 hq2 hq3
    subst hq1
    have hcell : w.cell? ⟨bp, 0 + i * 1, none⟩ = some (str d) := by
     rw [hqL] at hs
     rw [cell_blk (hs.at L1), Nat.zero_add, Nat.mul_one, List.getElem?_append_left (by rw [strs_len]; exact hlt)]
     simp [strs, hdi]
    refine cQ <| cR <| wV rfl (run_bT (run_lss rfl rfl) (by omega)) <| wZ <| cQ ?_
    refine cC rfl (fun h => ?_) (fun h => ?_)
    ·repeat (first | refine cQ ?_ | refine CW.block ?_ | refine cK ?_)
     refine cR <| wV rfl (run_ixSlN underlying88 ty9 rfl rfl (by omega)) <| wV rfl (run_load1 ty9 rfl (hcell)) <| wa rfl <| wZ <| cR <| wm rfl <| wm rfl <| wV rfl (run_build rfl (bld_itD d _)) ?_
     refine wE rfl (run_call en44 rfl rfl) (addDir_spec hR1 (fun e he => by have := hcnt e he; omega) (hg.stepS hs h0) (hs.dropR.zero h0 hg) hs.own (by omega) hj (by rw [dir_bump]; exact hm2)) ?_
     rintro e w ⟨L2, rfl, hR2, hqq⟩
     refine ⟨_, rfl, ?_⟩
     replace hs := hs.call hqq
     refine wZ <| cR <| wV rfl (run_add (c := ((i + 1 : Nat) : Int)) rfl rfl (by omega) (by omega)) <| wm rfl <| wZ ?_
     rw [← hfo] at hR2 hm3 hc1 hc2
     refine (show _ ∧ _ from ⟨rfl, _, ?_, i + 1, L2, by omega, rfl, hR2, hm3, hc1, by omega, hs, rfl, rfl, rfl, rfl, rfl, rfl, rfl, trivial⟩)
     omega
    ·cases h
   ·have hie : M.take i = M := List.take_of_length_le (by omega)
    rw [hie] at hR1
    refine cQ <| cR <| wV rfl (run_bF (run_lss rfl rfl) (by omega)) <| wZ <| cQ ?_
    refine cC rfl (fun h => ?_) (fun h => ?_)
    ·cases h
    refine CW.exit ?_
    exact ⟨rfl, L1, hR1, hs, rfl, rfl, rfl, rfl, trivial⟩
 clear hs
 rintro f w ⟨L1, hR1, hs, hf⟩
 have hobt := hf.chain
 obtain ⟨g, rfl⟩ := hobt
 have hobt : ∃ a, s.put1 q M x = a := ⟨_, rfl⟩
 obtain ⟨a, ha⟩ := hobt
 have hlen := put1_len sn.sum hx hpar
 simp only [ha] at hlen ⊢
 have hobt := made_fold M s hmade sn.cnt
 obtain ⟨hcnt1, hDl1, _, _⟩ := hobt
 have hobt := foldDir_F M s
 obtain ⟨e1F, e1b, _⟩ := hobt
 have hlim := sn.lim
 have hbyl := sn.ok.by_
 have hFl1 : (M.foldl VS.addDir s).F.length = s.F.length := by rw [e1F]
 have hFsl : Fs.length = s.F.length := by rw [← o.F, List.length_map]
 have hab : a.1.by_ = s.by_ := by
  rw [← ha]
  cases x with
  | some i => exact e1b
  | none => exact (file_addFile (x := []) hpar (by rw [file_foldDir]; exact hx)).2.2.trans (by rw [e1b]; rfl)
 refine CW.seqM (fun f w => ∃ b L2 bs2, VRepF bf a.1 L2 bs2 ∧ bs2[a.2]? = some b ∧ Step S (L2 ++ Lu) w0 w ∧ Holds f [(0, .pointer (some ⟨bf, 0, none⟩)), (2, .int .i64 (m : Nat)), (10, .pointer (some ⟨b, 0, none⟩))]) ?_ ?_
 ·cases x with
  | some i =>
   have hil := hxl i rfl
   have hbv : bVal (Fs.map (·.b)) (some i) = .pointer (some ⟨(Fs[i]'hil).b, 0, none⟩) := by simp [bVal, hil]
   rw [hbv]
   refine cQ <| cR <| wm rfl <| wV rfl (run_ptrNil underlying62 rfl rfl) <| wZ ?_
   refine cC rfl (fun h => ?_) (fun h => ?_)
   ·cases h
   refine cK ?_
   exact ⟨rfl, (Fs[i]'hil).b, L1, _, by rw [← ha]; exact hR1, by rw [← ha]; simp [VS.put1, hil], hs, rfl, rfl, rfl, trivial⟩
  | none =>
   have hobt := Option.isSome_iff_exists.1 hpar
   obtain ⟨j, hj⟩ := hobt
   have hobt := file_addFile (x := []) hpar (by rw [file_foldDir]; exact hx)
   obtain ⟨n1, n2, n3⟩ := hobt
   refine cQ <| cR <| wm rfl <| wV rfl (run_nilNil underlying62 rfl rfl) <| wZ ?_
   refine cC rfl (fun h => ?_) (fun h => ?_)
   ·refine cQ <| cR <| wm rfl <| wm rfl <| wV rfl (run_build rfl (bld_itF q _)) ?_
    refine wE rfl (run_call en44 rfl rfl) (addFile_spec (x := []) hR1 (fun e he => by have := hcnt1 e he; omega) (by omega) (hg.stepS hs h0) (hs.dropR.zero h0 hg) hs.own (by omega) (by simp) (fun _ => Sl.nil _ _ _) hj (by rw [show ∀ s : VS, (s.bump j).file q = s.file q from fun _ => rfl, file_foldDir]; exact hx)) ?_
    rintro e w ⟨L2, b, rfl, hR2, hqq⟩
    refine ⟨_, rfl, ?_⟩
    replace hs := hs.call hqq
    refine wZ ?_
    have hR2' := hR2
    obtain ⟨mf2, md2, vh2, Lh2, Fs2, Ds2, Hs2, o2, hb2⟩ := hR2'
    have hlk2 := (o2.lookF q).trans ((congrArg (fVal Fs2) n1).trans (fVal_b _ _))
    rw [hb2] at hlk2
    have hbn : (Fs.map (·.b) ++ [b])[(M.foldl VS.addDir s).F.length]? = some b := by
     rw [hFl1, ← hFsl, List.getElem?_append_right (by simp)]
     simp
    have hbv : bVal (Fs.map (·.b) ++ [b]) (some (M.foldl VS.addDir s).F.length) = .pointer (some ⟨b, 0, none⟩) := by
     unfold bVal
     simp only [hbn, Option.map_some]
    rw [hbv] at hlk2
    refine cR <| wm rfl <| wn rfl rfl <| wV rfl (run_field (o' := 0) underlying61 rfl ty57 rfl rfl rfl) <| wV rfl (run_load1 ty57 rfl ((o2.at (hs.dropR.has)).cell (j := 0) rfl)) <| wm rfl <| wV rfl (run_lookupSE underlying57 underlying9 (zFile _) (hlk2) rfl rfl (o2.mf_ hs.dropR.has)) <| wa rfl <| wZ ?_
    exact ⟨rfl, b, L2, _, by rw [← ha]; exact hR2, by rw [← ha]; exact hbn, hs, rfl, rfl, rfl, trivial⟩
   ·cases h
 clear hs hf hR1
 rintro f w ⟨b, L2, bs2, hR2, hbi, hs, hf⟩
 have hobt := hf.chain
 obtain ⟨g, rfl⟩ := hobt
 refine CW.seqM (fun f w => ∃ L3 bs3, VRepF bf (a.1.cutI m a.2) L3 bs3 ∧ bs3[a.2]? = some b ∧ Step S (L3 ++ Lu) w0 w ∧ Holds f [(0, .pointer (some ⟨bf, 0, none⟩)), (2, .int .i64 (m : Nat)), (10, .pointer (some ⟨b, 0, none⟩))]) ?_ ?_
 ·by_cases hm2 : m % 4 = 2
  ·obtain ⟨mf2, md2, vh2, Lh2, Fs2, Ds2, Hs2, o2, rfl⟩ := hR2
   obtain ⟨r, hr, hrb⟩ : ∃ r, Fs2[a.2]? = some r ∧ r.b = b := by
    rw [List.getElem?_map] at hbi
    cases hx : Fs2[a.2]? with
    | none => rw [hx] at hbi; cases hbi
    | some r => rw [hx] at hbi; exact ⟨r, rfl, by simpa using hbi⟩
   subst hrb
   have hobt := (o2.fs r (List.mem_of_getElem? hr)).form
   obtain ⟨av, cv, hvf⟩ := hobt
   have hop := o2.openF hr
   have hobt := o2.setF hr
   obtain ⟨L3, o3, hset⟩ := hobt
   have hobt : ∃ R, restF mf2 md2 Lh2 Fs2 Ds2 Hs2 a.2 = R := ⟨_, rfl⟩
   obtain ⟨R, hRe⟩ := hobt
   rw [hRe] at hop hset
   have hln := o2.len_ hr
   rw [hln] at hlen
   have hs2 := hs.perm (hop.append_right Lu)
   clear hs
   have hs : Step S ((r.b, blk 67 [str r.p, .slice av r.x.length cv]) :: (bf, blk 61 (fsC mf2 md2 vh2 a.1)) :: ((r.Lv ++ R) ++ Lu)) w0 w := by rw [← hvf]; exact hs2
   have hbs : ((a.1.by_ : Nat) : Int) - (r.x.length : Nat) = ((a.1.by_ - r.x.length : Nat) : Int) := by omega
   refine cQ <| cR <| wm rfl <| wV rfl (run_and3 hm8 rfl rfl) <| wV rfl (run_bT (run_eql rfl rfl) (by (exact_mod_cast hm2))) <| wZ ?_
   refine cC rfl (fun h => ?_) (fun h => ?_)
   ·refine cQ ?_
    refine CW.quietT (l1 := [_, _, _, _, _, _, _, _, _, _, _, _]) (l2 := [_]) 12 rfl mixedP rfl (by kernel_rfl) hs ?_
    refine qm rfl <| qn rfl rfl <| qV rfl (fun w hs => run_field (o' := 6) underlying61 rfl ty3 rfl rfl rfl) <| qV rfl (fun w hs => run_load1 ty3 rfl (hs.c1 (v := .int .i64 (a.1.by_ : Nat)) rfl)) <| qm rfl <| qn rfl rfl <| qV rfl (fun w hs => run_field (o' := 1) underlying67 rfl ty38 rfl rfl rfl) <| qV rfl (fun w hs => run_load1 ty38 rfl (hs.c0 (v := .slice av r.x.length cv) rfl)) <| qV rfl (fun w hs => run_lenSl underlying38 rfl) <| qV rfl (fun w hs => run_sub (c := ((a.1.by_ - r.x.length : Nat) : Int)) rfl rfl (by omega) (by omega)) <| qn rfl rfl <| qV rfl (fun w hs => run_field (o' := 6) underlying61 rfl ty3 rfl rfl rfl) ?_
    refine QL.nil (fun w hs => ?_)
    refine WL.store1_1 ty3 rfl rfl (rfl) hs (by first | (simp; done) | omega | (simp only [List.length_append, List.length_replicate, List.length_cons, List.length_nil, List.length_set]; omega) | (simp [Ent.cells, u8s]; done) | exact Nat.le_of_ble_eq_true rfl) (fun w hs => ?_)
    refine wZ <| cR <| wm rfl <| wn rfl rfl <| wV rfl (run_field (o' := 1) underlying67 rfl ty38 rfl rfl rfl) ?_
    refine WL.store1 ty38 rfl rfl (rfl) hs (by first | (simp; done) | omega | (simp only [List.length_append, List.length_replicate, List.length_cons, List.length_nil, List.length_set]; omega) | (simp [Ent.cells, u8s]; done) | exact Nat.le_of_ble_eq_true rfl) (fun w hs => ?_)
    refine wZ ?_
    replace hs : Step S ((r.b, blk 67 [str r.p, .slice none 0 0]) :: (bf, blk 61 (fsC mf2 md2 vh2 (a.1.trunc a.2))) :: ((r.Lv ++ R) ++ Lu)) w0 w := by
     have e : fsC mf2 md2 vh2 (a.1.trunc a.2) = (fsC mf2 md2 vh2 a.1).set 6 (.int .i64 ((a.1.by_ - r.x.length : Nat) : Int)) := by
      simp only [fsC, VS.trunc, hln]
      rfl
     rw [e]
     exact hs
    have hs4 := (hs.perm perm_cut).dropL
    refine ⟨rfl, L3, _, ⟨mf2, md2, vh2, Lh2, _, Ds2, Hs2, by rw [show a.1.cutI m a.2 = a.1.trunc a.2 from if_pos hm2]; exact o3, rfl⟩, ?_, hs4.perm (hset.append_right Lu), rfl, rfl, rfl, trivial⟩
    rw [List.getElem?_map, List.getElem?_set_self (List.getElem?_eq_some_iff.1 hr).1]
    rfl
   ·cases h
  ·refine cQ <| cR <| wm rfl <| wV rfl (run_and3 hm8 rfl rfl) <| wV rfl (run_bF (run_eql rfl rfl) (by (exact_mod_cast hm2))) <| wZ ?_
   refine cC rfl (fun h => ?_) (fun h => ?_)
   ·cases h
   refine cK ?_
   exact ⟨rfl, L2, bs2, by rw [show a.1.cutI m a.2 = a.1 from if_neg hm2]; exact hR2, hbi, hs, rfl, rfl, rfl, trivial⟩
 clear hs hf hR2
 rintro f w ⟨L3, bs3, hR3, hbi, hs, hf⟩
 have hobt := hf.chain
 obtain ⟨g, rfl⟩ := hobt
 have hH3 : (a.1.cutI m a.2).H = s.H := by
  have h1 : a.1.H = s.H := by
   rw [← ha]
   cases x with
   | some i => exact (foldDir_F M s).2.2.1
   | none =>
    show ((M.foldl VS.addDir s).addFile q []).H = s.H
    rw [← (foldDir_F M s).2.2.1]
    unfold VS.addFile
    split <;> rfl
  unfold VS.cutI
  split
  ·exact h1
  ·exact h1
 have hop3 : (a.1.cutI m a.2).op = s.op := by
  have h1 : a.1.op = s.op := by
   rw [← ha]
   cases x with
   | some i => exact (foldDir_F M s).2.2.2.1
   | none =>
    show ((M.foldl VS.addDir s).addFile q []).op = s.op
    rw [← (foldDir_F M s).2.2.2.1]
    unfold VS.addFile
    split <;> rfl
  unfold VS.cutI
  split
  ·exact h1
  ·exact h1
 have hobt : ∃ t3, a.1.cutI m a.2 = t3 := ⟨_, rfl⟩
 obtain ⟨t3, ht3⟩ := hobt
 rw [ht3] at hR3 hH3 hop3
 simp only [ht3]
 have hobt : ∃ fi, a.2 = fi := ⟨_, rfl⟩
 obtain ⟨fi, hfi⟩ := hobt
 rw [hfi] at hbi ⊢
 obtain ⟨mf3, md3, vh3, Lh3, Fs3, Ds3, Hs3, o3, rfl⟩ := hR3
 obtain ⟨r, hr, hrb⟩ : ∃ r, Fs3[fi]? = some r ∧ r.b = b := by
  rw [List.getElem?_map] at hbi
  cases hx : Fs3[fi]? with
  | none => rw [hx] at hbi; cases hbi
  | some r => rw [hx] at hbi; exact ⟨r, rfl, by simpa using hbi⟩
 subst hrb
 have hHl3 : Hs3.length = s.H.length := by rw [← hH3, ← o3.H, List.length_map]
 have hhl := sn.hl
 have hopl := sn.ok.op
 have hvo := o3.vh
 have hobt := hvo.form
 obtain ⟨ah, ch, rfl⟩ := hobt
 have hidx := fun {w} hw => idx_spec (Hs := Hs3) w (o3.hsl hw) (by omega)
 have hslot : t3.slotI = (Hs3.findIdx? Option.isNone).getD Hs3.length := by
  unfold VS.slotI
  rw [← o3.H, List.length_map, List.findIdx?_map]
  congr 2
  funext x
  cases x <;> rfl
 have hL3 := o3.L
 cases hfr : Hs3.findIdx? Option.isNone with
 | some k =>
  have hobt := List.findIdx?_eq_some_iff_getElem.1 hfr
  obtain ⟨hkl, hkn, _⟩ := hobt
  have hk : Hs3[k]? = some none := by
   rw [List.getElem?_eq_getElem hkl]
   cases hx : Hs3[k] with
   | none => rfl
   | some b => rw [hx] at hkn; cases hkn
  have hks : t3.slotI = k := by rw [hslot, hfr]; rfl
  have hfree : freeI Hs3 = (k : Nat) := by unfold freeI; rw [hfr]
  simp only [hfree] at hidx
  have hobt := hvo.some1 (by omega)
  obtain ⟨bl, cap, more, hq1, hqL, hcap⟩ := hobt
  injection hq1 with hq1 hq2 hq3
  subst hq1
  subst hq3
  have hobt : ∃ cap, cap = ch := ⟨_, rfl⟩
  obtain ⟨cap, rfl⟩ := hobt
  rw [hqL, List.singleton_append] at hL3
  refine cQ <| cR <| wm rfl <| wn rfl rfl <| wV rfl (run_field (o' := 2) underlying61 rfl ty59 rfl rfl rfl) <| wV rfl (run_load1 ty59 rfl ((o3.at hs.dropR.has).cell (j := 2) rfl)) ?_
  refine wE rfl (run_call en48 rfl rfl) (hidx hs.dropR.has) ?_
  rintro e w ⟨rfl, hq⟩
  refine ⟨_, rfl, ?_⟩
  replace hs := hs.callE hq
  refine wa rfl <| wZ <| cQ <| cQ <| cR <| wm rfl <| wV rfl (run_bF (run_lss rfl rfl) (by omega)) <| wZ ?_
  refine cC rfl (fun h => ?_) (fun h => ?_)
  ·cases h
  replace hs := hs.dropR
  rw [hL3] at hs
  have hH2 : Hs3 = Hs3 ∨ Hs3 = Hs3 ++ [none] ∧ k = Hs3.length := .inl rfl
  replace hs := hs.perm perm_h4
  replace hs : Step S ((bf, blk 61 (fsC mf3 md3 (.slice (some ⟨bl, 0, none⟩) Hs3.length cap) t3)) :: (bl, blk 75 (Hs3.map HB.val ++ more)) :: (mf3, mapS (mapF Fs3 0) Fs3.length) :: (md3, mapS (mapDi Ds3 0) Ds3.length) :: (Fs3.flatMap FB.own ++ (Ds3.flatMap DB.own ++ Hs3.flatMap HB.own))) w0 w := hs
  have hk2 := (List.getElem?_eq_some_iff.1 hk).1
  have hmk : Hs3.length ≤ cap := by
   rw [List.length_append, List.length_map] at hcap
   omega
  have hlm : (Hs3.map HB.val ++ more).length = Hs3.length + more.length := by simp
  repeat (first | refine cQ ?_ | refine cK ?_)
  refine cR <| wm rfl <| wn rfl rfl <| wV rfl (run_field (o' := 2) underlying61 rfl ty59 rfl rfl rfl) <| wV rfl (run_load1 ty59 rfl (hs.c0 (v := .slice (some ⟨bl, 0, none⟩) Hs3.length cap) rfl)) <| wm rfl <| wm rfl <| wm rfl <| wV rfl (run_and3 hm8 rfl rfl) <| wV rfl (run_build rfl (bld_hdl _ _ _)) ?_
  refine WL.box (cs := [.pointer (some ⟨r.b, 0, none⟩), .int .i64 ((0 : Nat) : Int), .int .i64 (m % 4 : Nat)]) rfl rfl rfl hs (fun b133 w hs => ?_)
  refine wV rfl (run_ixSlN underlying59 ty75 rfl rfl (by omega)) ?_
  refine WL.store1_2 ty75 rfl rfl (rfl) hs (by first | (simp; done) | omega | (simp only [List.length_append, List.length_replicate, List.length_cons, List.length_nil, List.length_set]; omega) | (simp [Ent.cells, u8s]; done) | exact Nat.le_of_ble_eq_true rfl) (fun w hs => ?_)
  refine wZ <| cQ <| cR <| wm rfl <| wn rfl rfl <| wV rfl (run_field (o' := 7) underlying61 rfl ty3 rfl rfl rfl) <| wV rfl (run_load1 ty3 rfl (hs.c1 (v := .int .i64 (t3.op : Nat)) rfl)) <| wV rfl (run_add (c := ((t3.op + 1 : Nat) : Int)) rfl rfl (by omega) (by omega)) <| wn rfl rfl <| wV rfl (run_field (o' := 7) underlying61 rfl ty3 rfl rfl rfl) ?_
  refine WL.store1_1 ty3 rfl rfl (rfl) hs (by first | (simp; done) | omega | (simp only [List.length_append, List.length_replicate, List.length_cons, List.length_nil, List.length_set]; omega) | (simp [Ent.cells, u8s]; done) | exact Nat.le_of_ble_eq_true rfl) (fun w hs => ?_)
  refine wZ <| cQ <| cR <| wm rfl <| wa rfl <| wa rfl <| wZ ?_
  refine CW.ret ?_
  refine fin_ret2 rfl ?_
  have hset : (Hs3.map HB.val ++ more).set (0 + k * 1) (.pointer (some ⟨b133, 0, none⟩)) = (Hs3.map HB.val).set k (.pointer (some ⟨b133, 0, none⟩)) ++ more := by
   rw [Nat.zero_add, Nat.mul_one, List.set_append_left _ _ (by simpa using hk2)]
  replace hs : Step S ((b133, blk 77 [.pointer (some ⟨r.b, 0, none⟩), .int .i64 ((0 : Nat) : Int), .int .i64 (m % 4 : Nat)]) :: (bf, blk 61 (fsC mf3 md3 (.slice (some ⟨bl, 0, none⟩) Hs3.length cap) { t3 with op := t3.op + 1 })) :: (bl, blk 75 ((Hs3.map HB.val).set k (.pointer (some ⟨b133, 0, none⟩)) ++ more)) :: (mf3, mapS (mapF Fs3 0) Fs3.length) :: (md3, mapS (mapDi Ds3 0) Ds3.length) :: (Fs3.flatMap FB.own ++ (Ds3.flatMap DB.own ++ Hs3.flatMap HB.own))) w0 w := by rw [← hset]; exact hs
  have hobt := o3.grabH (b := b133) (bn := b133) (bl := bl) (mo := m % 4) hr hH2 hk hks.symm hcap (List.Perm.refl _)
  obtain ⟨L', hL', hp⟩ := hobt
  exact ⟨L', congrArg (fun z : Nat => Ending.returned (.tuple #[.int .i64 (z : Int), .int .i64 0])) hks.symm, hL', hs.perm hp⟩
 | none =>
  have hks : t3.slotI = Hs3.length := by rw [hslot, hfr]; rfl
  have hfree : freeI Hs3 = -1 := by unfold freeI; rw [hfr]
  simp only [hfree] at hidx
  refine cQ <| cR <| wm rfl <| wn rfl rfl <| wV rfl (run_field (o' := 2) underlying61 rfl ty59 rfl rfl rfl) <| wV rfl (run_load1 ty59 rfl ((o3.at hs.dropR.has).cell (j := 2) rfl)) ?_
  refine wE rfl (run_call en48 rfl rfl) (hidx hs.dropR.has) ?_
  rintro e w ⟨rfl, hq⟩
  refine ⟨_, rfl, ?_⟩
  replace hs := hs.callE hq
  refine wa rfl <| wZ <| cQ <| cQ <| cR <| wm rfl <| wV rfl (run_bT (run_lss rfl rfl) (by omega)) <| wZ ?_
  refine cC rfl (fun h => ?_) (fun h => ?_)
  ·replace hs := hs.dropR
   rw [hL3] at hs
   refine cQ <| cR <| wm rfl <| wn rfl rfl <| wV rfl (run_field (o' := 2) underlying61 rfl ty59 rfl rfl rfl) <| wV rfl (run_load1 ty59 rfl (hs.c0 (v := .slice ah Hs3.length ch) rfl)) <| wV rfl (run_lenSl underlying59 rfl) <| wa rfl <| wZ <| cR <| wm rfl <| wm rfl <| wn rfl rfl <| wV rfl (run_field (o' := 2) underlying61 rfl ty59 rfl rfl rfl) <| wV rfl (run_load1 ty59 rfl (hs.c0 (v := .slice ah Hs3.length ch) rfl)) ?_
   refine WL.buildSlice (cs := [.pointer none]) underlying59 ty75 rfl (by decide) rfl (filled_s _ _ rfl) rfl hs (fun b120 w hs => ?_)
   have hsl1 : Sl w 1 (.slice (some ⟨b120, 0, none⟩) 1 1) 1 [.pointer none] := .own1 hs rfl
   refine WL.append underlying59 underlying59 ty75 rfl (by decide) rfl rfl (hvo) ((hs.perm perm_h1)) (hsl1) (Cells1.of_all rfl) (by first | omega | (simp only [List.length_append, List.length_cons, List.length_nil]; omega)) rfl (fun v121 Lv121 w hv121 hs => ?_)
   have hsm := hv121.some1 (by omega)
   obtain ⟨bl, cap, more, hq1, hqL, hcap⟩ := hsm
   subst hq1
   subst hqL
   replace hs := hs.perm perm_h2
   refine wn rfl rfl <| wV rfl (run_field (o' := 2) underlying61 rfl ty59 rfl rfl rfl) ?_
   refine WL.store1 ty59 rfl rfl (rfl) hs (by first | (simp; done) | omega | (simp only [List.length_append, List.length_replicate, List.length_cons, List.length_nil, List.length_set]; omega) | (simp [Ent.cells, u8s]; done) | exact Nat.le_of_ble_eq_true rfl) (fun w hs => ?_)
   refine wZ ?_
   have hH2 : Hs3 ++ [none] = Hs3 ∨ Hs3 ++ [none] = Hs3 ++ [none] ∧ Hs3.length = Hs3.length := .inr ⟨rfl, rfl⟩
   have hmv : (Hs3 ++ [none]).map HB.val = Hs3.map HB.val ++ [.pointer none] := by simp [HB.val]
   have hl2 : (Hs3 ++ [none]).length = Hs3.length + 1 := by simp
   have hk : (Hs3 ++ [none])[Hs3.length]? = some none := by rw [List.getElem?_append_right (Nat.le_refl _)]; simp
   replace hs := (hs.perm perm_h3).tail
   rw [← hmv] at hs hcap
   rw [← hl2] at hs
   replace hs : Step S ((bf, blk 61 (fsC mf3 md3 (.slice (some ⟨bl, 0, none⟩) (Hs3 ++ [none]).length cap) t3)) :: (bl, blk 75 ((Hs3 ++ [none]).map HB.val ++ more)) :: (mf3, mapS (mapF Fs3 0) Fs3.length) :: (md3, mapS (mapDi Ds3 0) Ds3.length) :: (Fs3.flatMap FB.own ++ (Ds3.flatMap DB.own ++ Hs3.flatMap HB.own))) w0 w := hs
   have hk2 := (List.getElem?_eq_some_iff.1 hk).1
   have hmk : (Hs3 ++ [none]).length ≤ cap := by
    rw [List.length_append, List.length_map] at hcap
    omega
   have hlm : ((Hs3 ++ [none]).map HB.val ++ more).length = (Hs3 ++ [none]).length + more.length := by rw [List.length_append, List.length_map]
   refine cQ <| cR <| wm rfl <| wn rfl rfl <| wV rfl (run_field (o' := 2) underlying61 rfl ty59 rfl rfl rfl) <| wV rfl (run_load1 ty59 rfl (hs.c0 (v := .slice (some ⟨bl, 0, none⟩) (Hs3 ++ [none]).length cap) rfl)) <| wm rfl <| wm rfl <| wm rfl <| wV rfl (run_and3 hm8 rfl rfl) <| wV rfl (run_build rfl (bld_hdl _ _ _)) ?_
   refine WL.box (cs := [.pointer (some ⟨r.b, 0, none⟩), .int .i64 ((0 : Nat) : Int), .int .i64 (m % 4 : Nat)]) rfl rfl rfl hs (fun b133 w hs => ?_)
   refine wV rfl (run_ixSlN underlying59 ty75 rfl rfl (by omega)) ?_
   refine WL.store1_2 ty75 rfl rfl (rfl) hs (by first | (simp; done) | omega | (simp only [List.length_append, List.length_replicate, List.length_cons, List.length_nil, List.length_set]; omega) | (simp [Ent.cells, u8s]; done) | exact Nat.le_of_ble_eq_true rfl) (fun w hs => ?_)
   refine wZ <| cQ <| cR <| wm rfl <| wn rfl rfl <| wV rfl (run_field (o' := 7) underlying61 rfl ty3 rfl rfl rfl) <| wV rfl (run_load1 ty3 rfl (hs.c1 (v := .int .i64 (t3.op : Nat)) rfl)) <| wV rfl (run_add (c := ((t3.op + 1 : Nat) : Int)) rfl rfl (by omega) (by omega)) <| wn rfl rfl <| wV rfl (run_field (o' := 7) underlying61 rfl ty3 rfl rfl rfl) ?_
   refine WL.store1_1 ty3 rfl rfl (rfl) hs (by first | (simp; done) | omega | (simp only [List.length_append, List.length_replicate, List.length_cons, List.length_nil, List.length_set]; omega) | (simp [Ent.cells, u8s]; done) | exact Nat.le_of_ble_eq_true rfl) (fun w hs => ?_)
   refine wZ <| cQ <| cR <| wm rfl <| wa rfl <| wa rfl <| wZ ?_
   refine CW.ret ?_
   refine fin_ret2 rfl ?_
   have hset : ((Hs3 ++ [none]).map HB.val ++ more).set (0 + Hs3.length * 1) (.pointer (some ⟨b133, 0, none⟩)) = ((Hs3 ++ [none]).map HB.val).set Hs3.length (.pointer (some ⟨b133, 0, none⟩)) ++ more := by
    rw [Nat.zero_add, Nat.mul_one, List.set_append_left _ _ (by simp)]
   replace hs : Step S ((b133, blk 77 [.pointer (some ⟨r.b, 0, none⟩), .int .i64 ((0 : Nat) : Int), .int .i64 (m % 4 : Nat)]) :: (bf, blk 61 (fsC mf3 md3 (.slice (some ⟨bl, 0, none⟩) (Hs3 ++ [none]).length cap) { t3 with op := t3.op + 1 })) :: (bl, blk 75 (((Hs3 ++ [none]).map HB.val).set Hs3.length (.pointer (some ⟨b133, 0, none⟩)) ++ more)) :: (mf3, mapS (mapF Fs3 0) Fs3.length) :: (md3, mapS (mapDi Ds3 0) Ds3.length) :: (Fs3.flatMap FB.own ++ (Ds3.flatMap DB.own ++ Hs3.flatMap HB.own))) w0 w := by rw [← hset]; exact hs
   have hobt := o3.grabH (b := b133) (bn := b133) (bl := bl) (mo := m % 4) hr hH2 hk hks.symm hcap (List.Perm.refl _)
   obtain ⟨L', hL', hp⟩ := hobt
   exact ⟨L', congrArg (fun z : Nat => Ending.returned (.tuple #[.int .i64 (z : Int), .int .i64 0])) hks.symm, hL', hs.perm hp⟩
  ·cases h
end
end Go.Gx
