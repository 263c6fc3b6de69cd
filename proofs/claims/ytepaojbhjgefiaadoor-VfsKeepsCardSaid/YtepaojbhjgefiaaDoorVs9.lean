/- Files in memory: looked up by path; the way to a path. -/
import Derived.Test.YtepaojbhjgefiaaDoorVp
import Derived.Test.YtepaojbhjgefiaaDoorVs8
import Derived.Test.YtepaojbhjgefiaaDoorRune1
namespace Go.Gx
open Go.Proofs
set_option linter.unusedVariables false
set_option linter.unusedSimpArgs false
set_option maxRecDepth 100000
section
variable {P : Program} {f : Slots} {w : World} {dd : Option Tmp} {ty : TypeId} {pos : String} {af : Array Edge} {x y : Operand} {T E K : TypeId} {M : List SEnt} {clock r : Nat} {d : List UInt8} {z u : Value}
theorem run_lookupSE (ht : P.underlying T = some (.map K E)) (hK : P.underlying K = some .string) (hz : (zeroValue E).run P w = .ok z w) (hu : ((findS d M 0).map (·.2)).getD z = u) (hx : ev f x = .map (some r)) (hy : ev f y = str d) (hb : w.heap[r]? = some (mapS M clock)) :
    (execOp (ev f) ⟨dd, .lookup T x y false, ty, pos, af, none⟩).run P w = .ok (.value u) w := by
  rw [← hu]
  exact run_lookupS1 ht hK hz hx hy hb
end
theorem zFile (w : World) : (zeroValue 86).run Tryd.prog w = .ok (.pointer none) w := by kernel_rfl
theorem zDir (w : World) : (zeroValue 73).run Tryd.prog w = .ok (.pointer none) w := by kernel_rfl
def VS.file (s : VS) (p : List UInt8) : Option Nat := s.F.findIdx? (fun e => decide (e.1 = p))
def VS.dir (s : VS) (p : List UInt8) : Option Nat := s.D.findIdx? (fun e => decide (e.1 = p))
def fVal (Fs : List FB) : Option Nat → Value
  | none => .pointer none
  | some i => .pointer ((Fs[i]?).map fun r => ⟨r.b, 0, none⟩)
def dVal (Ds : List DB) : Option Nat → Value
  | none => .pointer none
  | some i => .pointer ((Ds[i]?).map fun r => ⟨r.b, 0, none⟩)
theorem lookF (p : List UInt8) : ∀ (Fs : List FB) (k n : Nat), ((findS p (mapF Fs k) n).map (·.2)).getD (.pointer none) = fVal Fs ((Fs.map fun r => (r.p, r.x)).findIdx? (fun e => decide (e.1 = p)))
  | [], k, n => rfl
  | r :: Fs, k, n => by
    have ih := lookF p Fs (k + 1) (n + 1)
    rw [mapF, findS, List.map_cons, List.findIdx?_cons]
    by_cases h : r.p = p
    · simp [h, fVal]
    · rw [if_neg (fun e => h (Eq.symm e)), ih]
      simp only [h, decide_false]
      cases (Fs.map fun r => (r.p, r.x)).findIdx? (fun e => decide (e.1 = p)) with
      | none => rfl
      | some i => simp [fVal]
theorem lookD (p : List UInt8) : ∀ (Ds : List DB) (k n : Nat), ((findS p (mapDi Ds k) n).map (·.2)).getD (.pointer none) = dVal Ds ((Ds.map fun r => (r.p, r.n)).findIdx? (fun e => decide (e.1 = p)))
  | [], k, n => rfl
  | r :: Ds, k, n => by
    have ih := lookD p Ds (k + 1) (n + 1)
    rw [mapDi, findS, List.map_cons, List.findIdx?_cons]
    by_cases h : r.p = p
    · simp [h, dVal]
    · rw [if_neg (fun e => h (Eq.symm e)), ih]
      simp only [h, decide_false]
      cases (Ds.map fun r => (r.p, r.n)).findIdx? (fun e => decide (e.1 = p)) with
      | none => rfl
      | some i => simp [dVal]
section
variable {bf mf md : Nat} {s : VS} {L Lh : List (Nat × Obj)} {vh : Value} {Fs : List FB} {Ds : List DB} {Hs : List (Option HB)} {w0 : World}
theorem VOpen.lookF (o : VOpen bf s L mf md vh Lh Fs Ds Hs) (p : List UInt8) : ((findS p (mapF Fs 0) 0).map (·.2)).getD (.pointer none) = fVal Fs (s.file p) := by
  rw [Gx.lookF, o.F]
  rfl
theorem VOpen.lookD (o : VOpen bf s L mf md vh Lh Fs Ds Hs) (p : List UInt8) : ((findS p (mapDi Ds 0) 0).map (·.2)).getD (.pointer none) = dVal Ds (s.dir p) := by
  rw [Gx.lookD, o.D]
  rfl
theorem VOpen.file_at (o : VOpen bf s L mf md vh Lh Fs Ds Hs) {p : List UInt8} {i : Nat} (h : s.file p = some i) : ∃ r, Fs[i]? = some r ∧ r.p = p ∧ fVal Fs (s.file p) = .pointer (some ⟨r.b, 0, none⟩) := by
  have h1 := h
  unfold VS.file at h1
  rw [← o.F] at h1
  have hobt := List.findIdx?_eq_some_iff_getElem.1 h1
  obtain ⟨h2, h3, _⟩ := hobt
  rw [List.length_map] at h2
  refine ⟨Fs[i], List.getElem?_eq_getElem h2, by simpa using h3, ?_⟩
  rw [h]
  simp [fVal, h2]
theorem VOpen.dir_at (o : VOpen bf s L mf md vh Lh Fs Ds Hs) {p : List UInt8} {i : Nat} (h : s.dir p = some i) : ∃ r, Ds[i]? = some r ∧ r.p = p ∧ dVal Ds (s.dir p) = .pointer (some ⟨r.b, 0, none⟩) := by
  have h1 := h
  unfold VS.dir at h1
  rw [← o.D] at h1
  have hobt := List.findIdx?_eq_some_iff_getElem.1 h1
  obtain ⟨h2, h3, _⟩ := hobt
  rw [List.length_map] at h2
  refine ⟨Ds[i], List.getElem?_eq_getElem h2, by simpa using h3, ?_⟩
  rw [h]
  simp [dVal, h2]
end
/-- The directories on the way: what stands before each '/'. -/
def upsF : List UInt8 → List UInt8 → List (List UInt8)
  | _, [] => []
  | pre, c :: t => if c = 47 then pre :: upsF (pre ++ [c]) t else upsF (pre ++ [c]) t
theorem ups_len : ∀ (t pre : List UInt8), (upsF pre t).length ≤ t.length
  | [], pre => by simp [upsF]
  | c :: t, pre => by
    have := ups_len t (pre ++ [c])
    unfold upsF
    split <;> simp only [List.length_cons] <;> omega
theorem ups_step {p : List UInt8} {i : Nat} (h : i < p.length) : upsF (p.take i) (p.drop i) = if p[i] = 47 then p.take i :: upsF (p.take (i + 1)) (p.drop (i + 1)) else upsF (p.take (i + 1)) (p.drop (i + 1)) := by
  rw [List.drop_eq_getElem_cons h, upsF, ← List.take_append_getElem h]
theorem ups_skip {p : List UInt8} : ∀ (k i : Nat), i + k ≤ p.length → (∀ j (h : i + j < p.length), j < k → p[i + j] ≠ 47) → upsF (p.take i) (p.drop i) = upsF (p.take (i + k)) (p.drop (i + k))
  | 0, i, _, _ => rfl
  | k + 1, i, hl, h => by
    have h0 : p[i] ≠ 47 := h 0 (by omega) (by omega)
    rw [ups_step (by omega), if_neg h0, ups_skip k (i + 1) (by omega) (fun j hj hk => by
      have := h (j + 1) (by omega) (by omega)
      simpa [Nat.add_assoc, Nat.add_comm 1 j] using this), show i + 1 + k = i + (k + 1) by omega]
theorem dec_step {p : List UInt8} {i : Nat} (hi : i < p.length) (h : p[i] ≠ 47) : ∃ c wd, Utf8.decode ⟨⟨p⟩⟩ i = (c, wd) ∧ 1 ≤ wd ∧ i + wd ≤ p.length ∧ upsF (p.take i) (p.drop i) = upsF (p.take (i + wd)) (p.drop (i + wd)) := by
  by_cases hb : bAt p i < 128
  · refine ⟨_, 1, dec_ascii hb, Nat.le_refl _, by omega, ups_skip 1 i (by omega) fun j hj hk => ?_⟩
    obtain rfl : j = 0 := by omega
    exact h
  · have hobt := dec_wide hi (by omega)
    obtain ⟨h1, h2, h3, h4, h5⟩ := hobt
    refine ⟨_, _, rfl, h3, h4, ups_skip _ i h4 fun j hj hk => ?_⟩
    have h6 := h5 j hk
    intro e
    have e2 : bAt p (i + j) = (p[i + j]).toNat := by simp [bAt, hj]
    rw [e2, e] at h6
    exact absurd h6 (by decide)
theorem dec_slash {p : List UInt8} {i : Nat} (hi : i < p.length) (h : p[i] = 47) : Utf8.decode ⟨⟨p⟩⟩ i = (47, 1) := by
  have e : bAt p i = 47 := by
    have e2 : bAt p i = (p[i]).toNat := by simp [bAt, hi]
    rw [e2, h]
    rfl
  have h1 := dec_ascii (l := p) (i := i) (by omega)
  rw [e] at h1
  exact h1
/-- What Open and List find on the way. -/
def VS.way (s : VS) (mend : Bool) : List (List UInt8) → List (List UInt8) → List (List UInt8) × Int
  | [], acc => (acc, 0)
  | up :: l, acc => if (s.file up).isSome then ([], 93) else if (s.dir up).isSome then s.way mend l acc else if mend = false then ([], 91) else s.way mend l (acc ++ [up])
theorem perm_app {α : Type} {a b : α} {l : List α} : (a :: b :: l).Perm (l ++ [a, b]) := by
  classical
  exact List.perm_iff_count.2 fun x => by
    simp only [List.count_append, List.count_cons, List.count_nil]
    omega
section
variable {bf mf md : Nat} {s : VS} {L Lh : List (Nat × Obj)} {vh : Value} {Fs : List FB} {Ds : List DB} {Hs : List (Option HB)} {w0 : World}
set_option maxHeartbeats 2000000 in
theorem way_spec (o : VOpen bf s L mf md vh Lh Fs Ds Hs) (hw : ∀ p ∈ L, w0.heap[p.1]? = some p.2) {p : List UInt8} {mend : Bool} (hp : p.length ≤ 4096) : Calls Tryd.prog 30 #[.pointer (some ⟨bf, 0, none⟩), str p, .bool mend] w0 fun e w' => ∃ u Lu, e = .returned (.tuple #[u, .int .i64 (s.way mend (upsF [] p) []).2]) ∧ OwnSl 9 1 u (s.way mend (upsF [] p) []).1.length (strs (s.way mend (upsF [] p) []).1) Lu ∧ Step [] Lu w0 w' := by
  have hs : Step [] [] w0 w0 := Step.refl w0
  have hat := fun {w} hw => o.at (w := w) hw
  have hlw : ∀ {L' w}, Step [] L' w0 w → ∀ p ∈ L, w.heap[p.1]? = some p.2 := fun hs p hp => hs.old (hw p hp) (by simp)
  have hb8 : True := trivial
  have hul := ups_len p []
  have hobt : ∃ res, s.way mend (upsF [] p) [] = res := ⟨_, rfl⟩
  obtain ⟨res, hres⟩ := hobt
  rw [hres]
  refine calls (n := 47) Tryd.func30 rfl rfl rfl ?_
  repeat (first | refine CW.seq ?_ | refine CW.block ?_ | refine CW.skip ?_ | refine CW.label ?_ | refine CW.exit ?_ | refine CW.condT rfl ?_ | refine CW.condF rfl ?_)
  refine CW.reg ?_
  refine WL.val rfl (run_assign) ?_
  refine WL.val rfl (run_assign) ?_
  refine WL.nil ?_
  repeat (first | refine CW.seq ?_ | refine CW.block ?_ | refine CW.skip ?_ | refine CW.label ?_ | refine CW.exit ?_ | refine CW.condT rfl ?_ | refine CW.condF rfl ?_)
  refine CW.reg ?_
  refine WL.val rfl (run_assign) ?_
  refine WL.nil ?_
  repeat (first | refine CW.seq ?_ | refine CW.block ?_ | refine CW.skip ?_ | refine CW.label ?_ | refine CW.exit ?_ | refine CW.condT rfl ?_ | refine CW.condF rfl ?_)
  refine CW.reg ?_
  refine WL.val rfl (run_move) ?_
  refine WL.rangeS Tryd.underlying9 rfl rfl hs (fun b12 w hs => ?_)
  refine WL.nil ?_
  repeat (first | refine CW.seq ?_ | refine CW.block ?_ | refine CW.skip ?_ | refine CW.label ?_ | refine CW.exit ?_ | refine CW.condT rfl ?_ | refine CW.condF rfl ?_)
  refine CW.loop (fun m f w' => ∃ i acc u Lu, i ≤ p.length ∧ m = p.length - i ∧ s.way mend (upsF (p.take i) (p.drop i)) acc = res ∧ acc.length ≤ i ∧ OwnSl 9 1 u acc.length (strs acc) Lu ∧ Step [] ((b12, .stringIter ⟨⟨p⟩⟩ i) :: Lu) w0 w' ∧ Holds f [(0, .pointer (some ⟨bf, 0, none⟩)), (1, str p), (2, .bool mend), (8, u), (12, .pointer (some ⟨b12, 0, none⟩))]) (m := p.length) ?_ ?_
  · exact ⟨0, [], _, [], by omega, by omega, by simpa using hres, by simp, .nil _ _, hs, rfl, rfl, rfl, rfl, rfl, trivial⟩
  · clear hs
    rintro m f w ⟨i, acc, u, Lu, hi, rfl, hway, hal, hu, hs, hf⟩
    have hobt := hf.chain
    obtain ⟨g, rfl⟩ := hobt
    by_cases hlt : i < p.length
    · by_cases hsl : p[i] = 47
      · have hd := dec_slash hlt hsl
        have hix : p[i]? = some 47 := by rw [List.getElem?_eq_getElem hlt, hsl]
        rw [ups_step hlt, if_pos hsl, VS.way] at hway
        have hupl : (p.take i).length = i := by rw [List.length_take]; omega
        have hvF := o.lookF (p.take i)
        have hvD := o.lookD (p.take i)
        cases hF : s.file (p.take i) with
        | some j =>
          have hobt := o.file_at hF
          obtain ⟨r, _, _, hv⟩ := hobt
          rw [hv] at hvF
          rw [hF, Option.isSome_some, if_pos rfl] at hway
          subst hway
          repeat (first | refine CW.seq ?_ | refine CW.block ?_ | refine CW.skip ?_ | refine CW.label ?_ | refine CW.exit ?_ | refine CW.condT rfl ?_ | refine CW.condF rfl ?_)
          refine CW.reg ?_
          refine WL.nextS rfl rfl hs (by omega) (hd) (fun w hs => ?_)
          refine WL.val rfl (run_extract rfl rfl) ?_
          refine WL.nil ?_
          repeat (first | refine CW.seq ?_ | refine CW.block ?_ | refine CW.skip ?_ | refine CW.label ?_ | refine CW.exit ?_ | refine CW.condT rfl ?_ | refine CW.condF rfl ?_)
          refine CW.reg ?_
          refine WL.val rfl (run_extract rfl rfl) ?_
          refine WL.val rfl (run_assign) ?_
          refine WL.nil ?_
          repeat (first | refine CW.seq ?_ | refine CW.block ?_ | refine CW.skip ?_ | refine CW.label ?_ | refine CW.exit ?_ | refine CW.condT rfl ?_ | refine CW.condF rfl ?_)
          refine CW.reg ?_
          refine WL.val rfl (run_move) ?_
          refine WL.val rfl (run_move) ?_
          refine WL.val rfl (run_strIdx Tryd.underlying9 rfl rfl (hix)) ?_
          refine WL.val rfl (run_bF (run_neq rfl rfl) (by exact fun h => h rfl)) ?_
          refine WL.nil ?_
          repeat (first | refine CW.seq ?_ | refine CW.block ?_ | refine CW.skip ?_ | refine CW.label ?_ | refine CW.exit ?_ | refine CW.condT rfl ?_ | refine CW.condF rfl ?_)
          refine CW.reg ?_
          refine WL.val rfl (run_move) ?_
          refine WL.val rfl (run_move) ?_
          refine WL.val rfl (run_sliceStr Tryd.underlying9 rfl rfl rfl (by omega) (by omega)) ?_
          refine WL.val rfl (run_assign) ?_
          refine WL.nil ?_
          repeat (first | refine CW.seq ?_ | refine CW.block ?_ | refine CW.skip ?_ | refine CW.label ?_ | refine CW.exit ?_ | refine CW.condT rfl ?_ | refine CW.condF rfl ?_)
          refine CW.reg ?_
          refine WL.val rfl (run_move) ?_
          refine WL.val rfl (run_nilCheck rfl) ?_
          refine WL.val rfl (run_field (o' := 0) Tryd.underlying81 rfl ty72 rfl rfl rfl) ?_
          refine WL.val rfl (run_load1 ty72 rfl ((hat (hlw hs)).cell (j := 0) rfl)) ?_
          refine WL.val rfl (run_move) ?_
          refine WL.val rfl (run_lookupSE Tryd.underlying72 Tryd.underlying9 (zFile _) (hvF) rfl rfl (o.mf_ (hlw hs))) ?_
          refine WL.val rfl (run_ptrNilNe Tryd.underlying86 rfl rfl) ?_
          refine WL.val rfl (run_assign) ?_
          refine WL.nil ?_
          repeat (first | refine CW.seq ?_ | refine CW.block ?_ | refine CW.skip ?_ | refine CW.label ?_ | refine CW.exit ?_)
          first | refine CW.condP rfl (fun h => ?_) (fun h => ?_) | refine CW.cond rfl (fun h => ?_) (fun h => ?_)
          · repeat (first | refine CW.seq ?_ | refine CW.block ?_ | refine CW.skip ?_ | refine CW.label ?_ | refine CW.exit ?_ | refine CW.condT rfl ?_ | refine CW.condF rfl ?_)
            refine CW.reg ?_
            refine WL.val rfl (run_assign) ?_
            refine WL.val rfl (run_assign) ?_
            refine WL.nil ?_
            repeat (first | refine CW.seq ?_ | refine CW.block ?_ | refine CW.skip ?_ | refine CW.label ?_ | refine CW.exit ?_ | refine CW.condT rfl ?_ | refine CW.condF rfl ?_)
            refine CW.ret ?_
            refine fin_ret2 rfl ?_
            exact ⟨_, [], rfl, .nil _ _, hs.clear⟩
          · cases h
        | none =>
          rw [hF] at hvF
          rw [hF, Option.isSome_none, if_neg (by simp)] at hway
          cases hD : s.dir (p.take i) with
          | some j =>
            have hobt := o.dir_at hD
            obtain ⟨r, _, _, hv⟩ := hobt
            rw [hv] at hvD
            rw [hD, Option.isSome_some, if_pos rfl] at hway
            repeat (first | refine CW.seq ?_ | refine CW.block ?_ | refine CW.skip ?_ | refine CW.label ?_ | refine CW.exit ?_ | refine CW.condT rfl ?_ | refine CW.condF rfl ?_)
            refine CW.reg ?_
            refine WL.nextS rfl rfl hs (by omega) (hd) (fun w hs => ?_)
            refine WL.val rfl (run_extract rfl rfl) ?_
            refine WL.nil ?_
            repeat (first | refine CW.seq ?_ | refine CW.block ?_ | refine CW.skip ?_ | refine CW.label ?_ | refine CW.exit ?_ | refine CW.condT rfl ?_ | refine CW.condF rfl ?_)
            refine CW.reg ?_
            refine WL.val rfl (run_extract rfl rfl) ?_
            refine WL.val rfl (run_assign) ?_
            refine WL.nil ?_
            repeat (first | refine CW.seq ?_ | refine CW.block ?_ | refine CW.skip ?_ | refine CW.label ?_ | refine CW.exit ?_ | refine CW.condT rfl ?_ | refine CW.condF rfl ?_)
            refine CW.reg ?_
            refine WL.val rfl (run_move) ?_
            refine WL.val rfl (run_move) ?_
            refine WL.val rfl (run_strIdx Tryd.underlying9 rfl rfl (hix)) ?_
            refine WL.val rfl (run_bF (run_neq rfl rfl) (by exact fun h => h rfl)) ?_
            refine WL.nil ?_
            repeat (first | refine CW.seq ?_ | refine CW.block ?_ | refine CW.skip ?_ | refine CW.label ?_ | refine CW.exit ?_ | refine CW.condT rfl ?_ | refine CW.condF rfl ?_)
            refine CW.reg ?_
            refine WL.val rfl (run_move) ?_
            refine WL.val rfl (run_move) ?_
            refine WL.val rfl (run_sliceStr Tryd.underlying9 rfl rfl rfl (by omega) (by omega)) ?_
            refine WL.val rfl (run_assign) ?_
            refine WL.nil ?_
            repeat (first | refine CW.seq ?_ | refine CW.block ?_ | refine CW.skip ?_ | refine CW.label ?_ | refine CW.exit ?_ | refine CW.condT rfl ?_ | refine CW.condF rfl ?_)
            refine CW.reg ?_
            refine WL.val rfl (run_move) ?_
            refine WL.val rfl (run_nilCheck rfl) ?_
            refine WL.val rfl (run_field (o' := 0) Tryd.underlying81 rfl ty72 rfl rfl rfl) ?_
            refine WL.val rfl (run_load1 ty72 rfl ((hat (hlw hs)).cell (j := 0) rfl)) ?_
            refine WL.val rfl (run_move) ?_
            refine WL.val rfl (run_lookupSE Tryd.underlying72 Tryd.underlying9 (zFile _) (hvF) rfl rfl (o.mf_ (hlw hs))) ?_
            refine WL.val rfl (run_nilNe Tryd.underlying86 rfl rfl) ?_
            refine WL.val rfl (run_assign) ?_
            refine WL.nil ?_
            repeat (first | refine CW.seq ?_ | refine CW.block ?_ | refine CW.skip ?_ | refine CW.label ?_ | refine CW.exit ?_)
            first | refine CW.condP rfl (fun h => ?_) (fun h => ?_) | refine CW.cond rfl (fun h => ?_) (fun h => ?_)
            · cases h
            repeat (first | refine CW.seq ?_ | refine CW.block ?_ | refine CW.skip ?_ | refine CW.label ?_ | refine CW.exit ?_ | refine CW.condT rfl ?_ | refine CW.condF rfl ?_)
            refine CW.reg ?_
            refine WL.val rfl (run_move) ?_
            refine WL.val rfl (run_nilCheck rfl) ?_
            refine WL.val rfl (run_field (o' := 1) Tryd.underlying81 rfl ty78 rfl rfl rfl) ?_
            refine WL.val rfl (run_load1 ty78 rfl ((hat (hlw hs)).cell (j := 1) rfl)) ?_
            refine WL.val rfl (run_move) ?_
            refine WL.val rfl (run_lookupSE Tryd.underlying78 Tryd.underlying9 (zDir _) (hvD) rfl rfl (o.md_ (hlw hs))) ?_
            refine WL.val rfl (run_ptrNilNe Tryd.underlying73 rfl rfl) ?_
            refine WL.val rfl (run_assign) ?_
            refine WL.nil ?_
            repeat (first | refine CW.seq ?_ | refine CW.block ?_ | refine CW.skip ?_ | refine CW.label ?_ | refine CW.exit ?_)
            first | refine CW.condP rfl (fun h => ?_) (fun h => ?_) | refine CW.cond rfl (fun h => ?_) (fun h => ?_)
            · repeat (first | refine CW.seq ?_ | refine CW.block ?_ | refine CW.skip ?_ | refine CW.label ?_ | refine CW.exit ?_)
              refine (show _ ∧ _ from ⟨rfl, _, ?_, i + 1, acc, u, Lu, by omega, rfl, hway, by omega, hu, hs, rfl, rfl, rfl, rfl, rfl, trivial⟩)
              omega
            · cases h
          | none =>
            rw [hD] at hvD
            rw [hD, Option.isSome_none, if_neg (by simp)] at hway
            cases mend with
            | false =>
              rw [if_pos rfl] at hway
              subst hway
              repeat (first | refine CW.seq ?_ | refine CW.block ?_ | refine CW.skip ?_ | refine CW.label ?_ | refine CW.exit ?_ | refine CW.condT rfl ?_ | refine CW.condF rfl ?_)
              refine CW.reg ?_
              refine WL.nextS rfl rfl hs (by omega) (hd) (fun w hs => ?_)
              refine WL.val rfl (run_extract rfl rfl) ?_
              refine WL.nil ?_
              repeat (first | refine CW.seq ?_ | refine CW.block ?_ | refine CW.skip ?_ | refine CW.label ?_ | refine CW.exit ?_ | refine CW.condT rfl ?_ | refine CW.condF rfl ?_)
              refine CW.reg ?_
              refine WL.val rfl (run_extract rfl rfl) ?_
              refine WL.val rfl (run_assign) ?_
              refine WL.nil ?_
              repeat (first | refine CW.seq ?_ | refine CW.block ?_ | refine CW.skip ?_ | refine CW.label ?_ | refine CW.exit ?_ | refine CW.condT rfl ?_ | refine CW.condF rfl ?_)
              refine CW.reg ?_
              refine WL.val rfl (run_move) ?_
              refine WL.val rfl (run_move) ?_
              refine WL.val rfl (run_strIdx Tryd.underlying9 rfl rfl (hix)) ?_
              refine WL.val rfl (run_bF (run_neq rfl rfl) (by exact fun h => h rfl)) ?_
              refine WL.nil ?_
              repeat (first | refine CW.seq ?_ | refine CW.block ?_ | refine CW.skip ?_ | refine CW.label ?_ | refine CW.exit ?_ | refine CW.condT rfl ?_ | refine CW.condF rfl ?_)
              refine CW.reg ?_
              refine WL.val rfl (run_move) ?_
              refine WL.val rfl (run_move) ?_
              refine WL.val rfl (run_sliceStr Tryd.underlying9 rfl rfl rfl (by omega) (by omega)) ?_
              refine WL.val rfl (run_assign) ?_
              refine WL.nil ?_
              repeat (first | refine CW.seq ?_ | refine CW.block ?_ | refine CW.skip ?_ | refine CW.label ?_ | refine CW.exit ?_ | refine CW.condT rfl ?_ | refine CW.condF rfl ?_)
              refine CW.reg ?_
              refine WL.val rfl (run_move) ?_
              refine WL.val rfl (run_nilCheck rfl) ?_
              refine WL.val rfl (run_field (o' := 0) Tryd.underlying81 rfl ty72 rfl rfl rfl) ?_
              refine WL.val rfl (run_load1 ty72 rfl ((hat (hlw hs)).cell (j := 0) rfl)) ?_
              refine WL.val rfl (run_move) ?_
              refine WL.val rfl (run_lookupSE Tryd.underlying72 Tryd.underlying9 (zFile _) (hvF) rfl rfl (o.mf_ (hlw hs))) ?_
              refine WL.val rfl (run_nilNe Tryd.underlying86 rfl rfl) ?_
              refine WL.val rfl (run_assign) ?_
              refine WL.nil ?_
              repeat (first | refine CW.seq ?_ | refine CW.block ?_ | refine CW.skip ?_ | refine CW.label ?_ | refine CW.exit ?_)
              first | refine CW.condP rfl (fun h => ?_) (fun h => ?_) | refine CW.cond rfl (fun h => ?_) (fun h => ?_)
              · cases h
              repeat (first | refine CW.seq ?_ | refine CW.block ?_ | refine CW.skip ?_ | refine CW.label ?_ | refine CW.exit ?_ | refine CW.condT rfl ?_ | refine CW.condF rfl ?_)
              refine CW.reg ?_
              refine WL.val rfl (run_move) ?_
              refine WL.val rfl (run_nilCheck rfl) ?_
              refine WL.val rfl (run_field (o' := 1) Tryd.underlying81 rfl ty78 rfl rfl rfl) ?_
              refine WL.val rfl (run_load1 ty78 rfl ((hat (hlw hs)).cell (j := 1) rfl)) ?_
              refine WL.val rfl (run_move) ?_
              refine WL.val rfl (run_lookupSE Tryd.underlying78 Tryd.underlying9 (zDir _) (hvD) rfl rfl (o.md_ (hlw hs))) ?_
              refine WL.val rfl (run_nilNe Tryd.underlying73 rfl rfl) ?_
              refine WL.val rfl (run_assign) ?_
              refine WL.nil ?_
              repeat (first | refine CW.seq ?_ | refine CW.block ?_ | refine CW.skip ?_ | refine CW.label ?_ | refine CW.exit ?_)
              first | refine CW.condP rfl (fun h => ?_) (fun h => ?_) | refine CW.cond rfl (fun h => ?_) (fun h => ?_)
              · cases h
              repeat (first | refine CW.seq ?_ | refine CW.block ?_ | refine CW.skip ?_ | refine CW.label ?_ | refine CW.exit ?_ | refine CW.condT rfl ?_ | refine CW.condF rfl ?_)
              refine CW.reg ?_
              refine WL.val rfl (run_move) ?_
              first | refine WL.val rfl (run_notB rfl) ?_ | refine WL.val rfl (run_not rfl) ?_
              refine WL.val rfl (run_assign) ?_
              refine WL.nil ?_
              repeat (first | refine CW.seq ?_ | refine CW.block ?_ | refine CW.skip ?_ | refine CW.label ?_ | refine CW.exit ?_)
              first | refine CW.condP rfl (fun h => ?_) (fun h => ?_) | refine CW.cond rfl (fun h => ?_) (fun h => ?_)
              · repeat (first | refine CW.seq ?_ | refine CW.block ?_ | refine CW.skip ?_ | refine CW.label ?_ | refine CW.exit ?_ | refine CW.condT rfl ?_ | refine CW.condF rfl ?_)
                refine CW.reg ?_
                refine WL.val rfl (run_assign) ?_
                refine WL.val rfl (run_assign) ?_
                refine WL.nil ?_
                repeat (first | refine CW.seq ?_ | refine CW.block ?_ | refine CW.skip ?_ | refine CW.label ?_ | refine CW.exit ?_ | refine CW.condT rfl ?_ | refine CW.condF rfl ?_)
                refine CW.ret ?_
                refine fin_ret2 rfl ?_
                exact ⟨_, [], rfl, .nil _ _, hs.clear⟩
              · cases h
            | true =>
              rw [if_neg (by simp)] at hway
              repeat (first | refine CW.seq ?_ | refine CW.block ?_ | refine CW.skip ?_ | refine CW.label ?_ | refine CW.exit ?_ | refine CW.condT rfl ?_ | refine CW.condF rfl ?_)
              refine CW.reg ?_
              refine WL.nextS rfl rfl hs (by omega) (hd) (fun w hs => ?_)
              refine WL.val rfl (run_extract rfl rfl) ?_
              refine WL.nil ?_
              repeat (first | refine CW.seq ?_ | refine CW.block ?_ | refine CW.skip ?_ | refine CW.label ?_ | refine CW.exit ?_ | refine CW.condT rfl ?_ | refine CW.condF rfl ?_)
              refine CW.reg ?_
              refine WL.val rfl (run_extract rfl rfl) ?_
              refine WL.val rfl (run_assign) ?_
              refine WL.nil ?_
              repeat (first | refine CW.seq ?_ | refine CW.block ?_ | refine CW.skip ?_ | refine CW.label ?_ | refine CW.exit ?_ | refine CW.condT rfl ?_ | refine CW.condF rfl ?_)
              refine CW.reg ?_
              refine WL.val rfl (run_move) ?_
              refine WL.val rfl (run_move) ?_
              refine WL.val rfl (run_strIdx Tryd.underlying9 rfl rfl (hix)) ?_
              refine WL.val rfl (run_bF (run_neq rfl rfl) (by exact fun h => h rfl)) ?_
              refine WL.nil ?_
              repeat (first | refine CW.seq ?_ | refine CW.block ?_ | refine CW.skip ?_ | refine CW.label ?_ | refine CW.exit ?_ | refine CW.condT rfl ?_ | refine CW.condF rfl ?_)
              refine CW.reg ?_
              refine WL.val rfl (run_move) ?_
              refine WL.val rfl (run_move) ?_
              refine WL.val rfl (run_sliceStr Tryd.underlying9 rfl rfl rfl (by omega) (by omega)) ?_
              refine WL.val rfl (run_assign) ?_
              refine WL.nil ?_
              repeat (first | refine CW.seq ?_ | refine CW.block ?_ | refine CW.skip ?_ | refine CW.label ?_ | refine CW.exit ?_ | refine CW.condT rfl ?_ | refine CW.condF rfl ?_)
              refine CW.reg ?_
              refine WL.val rfl (run_move) ?_
              refine WL.val rfl (run_nilCheck rfl) ?_
              refine WL.val rfl (run_field (o' := 0) Tryd.underlying81 rfl ty72 rfl rfl rfl) ?_
              refine WL.val rfl (run_load1 ty72 rfl ((hat (hlw hs)).cell (j := 0) rfl)) ?_
              refine WL.val rfl (run_move) ?_
              refine WL.val rfl (run_lookupSE Tryd.underlying72 Tryd.underlying9 (zFile _) (hvF) rfl rfl (o.mf_ (hlw hs))) ?_
              refine WL.val rfl (run_nilNe Tryd.underlying86 rfl rfl) ?_
              refine WL.val rfl (run_assign) ?_
              refine WL.nil ?_
              repeat (first | refine CW.seq ?_ | refine CW.block ?_ | refine CW.skip ?_ | refine CW.label ?_ | refine CW.exit ?_)
              first | refine CW.condP rfl (fun h => ?_) (fun h => ?_) | refine CW.cond rfl (fun h => ?_) (fun h => ?_)
              · cases h
              repeat (first | refine CW.seq ?_ | refine CW.block ?_ | refine CW.skip ?_ | refine CW.label ?_ | refine CW.exit ?_ | refine CW.condT rfl ?_ | refine CW.condF rfl ?_)
              refine CW.reg ?_
              refine WL.val rfl (run_move) ?_
              refine WL.val rfl (run_nilCheck rfl) ?_
              refine WL.val rfl (run_field (o' := 1) Tryd.underlying81 rfl ty78 rfl rfl rfl) ?_
              refine WL.val rfl (run_load1 ty78 rfl ((hat (hlw hs)).cell (j := 1) rfl)) ?_
              refine WL.val rfl (run_move) ?_
              refine WL.val rfl (run_lookupSE Tryd.underlying78 Tryd.underlying9 (zDir _) (hvD) rfl rfl (o.md_ (hlw hs))) ?_
              refine WL.val rfl (run_nilNe Tryd.underlying73 rfl rfl) ?_
              refine WL.val rfl (run_assign) ?_
              refine WL.nil ?_
              repeat (first | refine CW.seq ?_ | refine CW.block ?_ | refine CW.skip ?_ | refine CW.label ?_ | refine CW.exit ?_)
              first | refine CW.condP rfl (fun h => ?_) (fun h => ?_) | refine CW.cond rfl (fun h => ?_) (fun h => ?_)
              · cases h
              repeat (first | refine CW.seq ?_ | refine CW.block ?_ | refine CW.skip ?_ | refine CW.label ?_ | refine CW.exit ?_ | refine CW.condT rfl ?_ | refine CW.condF rfl ?_)
              refine CW.reg ?_
              refine WL.val rfl (run_move) ?_
              first | refine WL.val rfl (run_notB rfl) ?_ | refine WL.val rfl (run_not rfl) ?_
              refine WL.val rfl (run_assign) ?_
              refine WL.nil ?_
              repeat (first | refine CW.seq ?_ | refine CW.block ?_ | refine CW.skip ?_ | refine CW.label ?_ | refine CW.exit ?_)
              first | refine CW.condP rfl (fun h => ?_) (fun h => ?_) | refine CW.cond rfl (fun h => ?_) (fun h => ?_)
              · cases h
              repeat (first | refine CW.seq ?_ | refine CW.block ?_ | refine CW.skip ?_ | refine CW.label ?_ | refine CW.exit ?_ | refine CW.condT rfl ?_ | refine CW.condF rfl ?_)
              refine CW.reg ?_
              refine WL.val rfl (run_move) ?_
              refine WL.val rfl (run_move) ?_
              refine WL.buildSlice (cs := [str (p.take i)]) Tryd.underlying51 ty9 rfl (by decide) rfl (filled_s _ _ rfl) rfl hs (fun b25 w hs => ?_)
              have hsl1 : Sl w 1 (.slice (some ⟨b25, 0, none⟩) 1 1) 1 [str (p.take i)] := .own1 hs rfl
              refine WL.append Tryd.underlying51 Tryd.underlying51 ty9 rfl (by decide) rfl rfl (hu) ((hs.perm perm_app)) (hsl1) (Cells1.of_all rfl) (by first | omega | (simp only [List.length_append, List.length_cons, List.length_nil]; omega)) rfl (fun v26 Lv26 w hv26 hs => ?_)
              refine WL.val rfl (run_assign) ?_
              refine WL.nil ?_
              have eP : strs acc ++ [str (p.take i)] = strs (acc ++ [p.take i]) := by simp [strs]
              rw [eP] at hv26
              replace hs := Step.dropX hs
              replace hs := hs.append_comm
              repeat (first | refine CW.seq ?_ | refine CW.block ?_ | refine CW.skip ?_ | refine CW.label ?_ | refine CW.exit ?_)
              refine (show _ ∧ _ from ⟨rfl, _, ?_, i + 1, acc ++ [p.take i], _, _, by omega, rfl, hway, by rw [List.length_append]; simp; omega, ?_, hs, rfl, rfl, rfl, rfl, rfl, trivial⟩)
              · omega
              · rw [List.length_append]
                exact hv26
      · have hobt := dec_step hlt hsl
        obtain ⟨c, wd, hd, hw1, hw2, hups⟩ := hobt
        rw [hups] at hway
        have hix : p[i]? = some p[i] := List.getElem?_eq_getElem hlt
        have hne : ¬ ((p[i].toNat : Nat) : Int) = 47 := fun e => hsl (UInt8.toNat_inj.1 (by have : (47 : UInt8).toNat = 47 := rfl; omega))
        repeat (first | refine CW.seq ?_ | refine CW.block ?_ | refine CW.skip ?_ | refine CW.label ?_ | refine CW.exit ?_ | refine CW.condT rfl ?_ | refine CW.condF rfl ?_)
        refine CW.reg ?_
        refine WL.nextS rfl rfl hs (by omega) (hd) (fun w hs => ?_)
        refine WL.val rfl (run_extract rfl rfl) ?_
        refine WL.nil ?_
        repeat (first | refine CW.seq ?_ | refine CW.block ?_ | refine CW.skip ?_ | refine CW.label ?_ | refine CW.exit ?_ | refine CW.condT rfl ?_ | refine CW.condF rfl ?_)
        refine CW.reg ?_
        refine WL.val rfl (run_extract rfl rfl) ?_
        refine WL.val rfl (run_assign) ?_
        refine WL.nil ?_
        repeat (first | refine CW.seq ?_ | refine CW.block ?_ | refine CW.skip ?_ | refine CW.label ?_ | refine CW.exit ?_ | refine CW.condT rfl ?_ | refine CW.condF rfl ?_)
        refine CW.reg ?_
        refine WL.val rfl (run_move) ?_
        refine WL.val rfl (run_move) ?_
        refine WL.val rfl (run_strIdx Tryd.underlying9 rfl rfl (hix)) ?_
        refine WL.val rfl (run_bT (run_neq rfl rfl) (by exact hne)) ?_
        refine WL.nil ?_
        repeat (first | refine CW.seq ?_ | refine CW.block ?_ | refine CW.skip ?_ | refine CW.label ?_ | refine CW.exit ?_)
        first | refine CW.condP rfl (fun h => ?_) (fun h => ?_) | refine CW.cond rfl (fun h => ?_) (fun h => ?_)
        · repeat (first | refine CW.seq ?_ | refine CW.block ?_ | refine CW.skip ?_ | refine CW.label ?_ | refine CW.exit ?_)
          refine (show _ ∧ _ from ⟨rfl, _, ?_, i + wd, acc, u, Lu, hw2, rfl, hway, by omega, hu, hs, rfl, rfl, rfl, rfl, rfl, trivial⟩)
          omega
        · cases h
    · have hie : i = p.length := by omega
      rw [hie, List.drop_length, upsF, VS.way] at hway
      subst hway
      rw [hie] at hs
      repeat (first | refine CW.seq ?_ | refine CW.block ?_ | refine CW.skip ?_ | refine CW.label ?_ | refine CW.exit ?_ | refine CW.condT rfl ?_ | refine CW.condF rfl ?_)
      refine CW.reg ?_
      refine WL.nextEnd rfl rfl hs (by omega) ?_
      refine WL.val rfl (run_extract rfl rfl) ?_
      refine WL.nil ?_
      repeat (first | refine CW.seq ?_ | refine CW.block ?_ | refine CW.skip ?_ | refine CW.label ?_ | refine CW.exit ?_ | refine CW.condT rfl ?_ | refine CW.condF rfl ?_)
      refine CW.reg ?_
      refine WL.val rfl (run_move) ?_
      refine WL.val rfl (run_assign) ?_
      refine WL.val rfl (run_assign) ?_
      refine WL.nil ?_
      repeat (first | refine CW.seq ?_ | refine CW.block ?_ | refine CW.skip ?_ | refine CW.label ?_ | refine CW.exit ?_ | refine CW.condT rfl ?_ | refine CW.condF rfl ?_)
      refine CW.ret ?_
      refine fin_ret2 rfl ?_
      exact ⟨u, Lu, rfl, hu, hs.tail⟩
end
end Go.Gx
