/- DERIVED: THE SHELF's CONTRACTS AT THIS DUMP, IN PLAIN WORDS (tools/lay-plain.mjs out of 'TrySort.lean', which tools/lay-shelf.mjs wrote): THE SAME DECLARATIONS UNDER THE SAME NAMES: 'import', 'namespace', 'open', 'def', 'theorem' AND NOTHING ELSE: no command of the shelf's: FOR A HAND-IN. Each laying: the table of numbers ('.._ren') and one theorem, a field a fact of the dump's own or the kernel's comparison; each contract: ONE APPLICATION. The rows that All sorts: the closure; slices.SortFunc by the shelf's contract. slices.SortFunc at the rows of a Store: any length. The Store: All. Ranges over a function, over slots: rounds, yields, marks. No program in sight. Regions that draw their order and hold a call of yield, in an iterator's own frame: quiet operations may be taken first. No program in sight. Ranges over a function of two values. No program in sight. Within a round: regions that draw their order. No program in sight. The sequence that All tells, as an iterator. A Store as a plain thing: a rising list of blobs; what each method does. No program in sight. The program's Store stands for a plain one. The program's Store: each method in the words of the plain Store. The program's Store: Put, Plant, New, Twin in the words of the plain Store. The document's Store: places in a rising list. The document's Store stands for a plain one; place, Used, room. -/
import Derived.Shelf.SlSortCmp.WholeK
import Derived.Ground.SlsfProg
import Derived.Test.YtakhjiecinpmiaaProg
import Derived.Test.YtakhjiecinpmiaaM3
import Derived.Shelf.SlSortCmp.NoneTotal
import Derived.Test.YtakhjiecinpmiaaM1
import Derived.RangeFuncRecord
import Derived.RangeFuncNested
import Derived.OrdersIn
/-! Sort -/
namespace Go.Proofs
open Go.Shelf
def Try.sortRow_ren : Go.Shelf.Ren := ⟨fun | 6 => 54 | 15 => 74 | 14 => 73 | 28 => 93 | 29 => 94 | 20 => 85 | 21 => 86 | 22 => 87 | 23 => 88 | 24 => 89 | 25 => 90 | 26 => 91 | 27 => 92 | 46 => 102 | 47 => 103 | 48 => 104 | 49 => 105 | 50 => 106 | 57 => 107 | n => n, fun | 22 => 99 | 24 => 101 | 25 => 104 | 3 => 3 | 39 => 122 | 0 => 0 | 53 => 124 | 55 => 130 | 4 => 4 | 46 => 138 | 45 => 137 | 50 => 132 | 5 => 5 | 9 => 9 | 66 => 151 | 70 => 155 | 76 => 157 | 77 => 158 | n => n, fun | n => n⟩
theorem Try.sortRow : Go.Proofs.SlLaysF0.n6 Try.prog Try.sortRow_ren := {
  mixed := by kernel_rfl
  f6 := ⟨Try.f54.name, by decide, Try.func54.trans (congrArg some (by kernel_rfl))⟩
  f14 := ⟨Try.f73.name, by decide, Try.func73.trans (congrArg some (by kernel_rfl))⟩
  f15 := Try.func74.trans (congrArg some (by kernel_rfl))
  f20 := ⟨Try.f85.name, by decide, Try.func85.trans (congrArg some (by kernel_rfl))⟩
  f21 := ⟨Try.f86.name, by decide, Try.func86.trans (congrArg some (by kernel_rfl))⟩
  f22 := ⟨Try.f87.name, by decide, Try.func87.trans (congrArg some (by kernel_rfl))⟩
  f23 := ⟨Try.f88.name, by decide, Try.func88.trans (congrArg some (by kernel_rfl))⟩
  f24 := ⟨Try.f89.name, by decide, Try.func89.trans (congrArg some (by kernel_rfl))⟩
  f25 := ⟨Try.f90.name, by decide, Try.func90.trans (congrArg some (by kernel_rfl))⟩
  f26 := ⟨Try.f91.name, by decide, Try.func91.trans (congrArg some (by kernel_rfl))⟩
  f27 := ⟨Try.f92.name, by decide, Try.func92.trans (congrArg some (by kernel_rfl))⟩
  f28 := Try.func93.trans (congrArg some (by kernel_rfl))
  f29 := Try.func94.trans (congrArg some (by kernel_rfl))
  f46 := ⟨Try.f102.name, by decide, Try.func102.trans (congrArg some (by kernel_rfl))⟩
  f47 := Try.func103.trans (congrArg some (by kernel_rfl))
  f48 := Try.func104.trans (congrArg some (by kernel_rfl))
  f49 := ⟨Try.f105.name, by decide, Try.func105.trans (congrArg some (by kernel_rfl))⟩
  f50 := ⟨Try.f106.name, by decide, Try.func106.trans (congrArg some (by kernel_rfl))⟩
  f57 := ⟨Try.f107.name, by decide, Try.func107.trans (congrArg some (by kernel_rfl))⟩
  t0 := Try.underlying0
  a0 := Try.isAgg0
  z0 := Try.sizeOf0
  v0 := Try.zeroValue0
  t3 := Try.underlying3
  a3 := Try.isAgg3
  z3 := Try.sizeOf3
  v3 := Try.zeroValue3
  t4 := Try.underlying4
  a4 := Try.isAgg4
  z4 := Try.sizeOf4
  v4 := Try.zeroValue4
  t5 := Try.underlying5
  a5 := Try.isAgg5
  z5 := Try.sizeOf5
  v5 := Try.zeroValue5
  t9 := Try.underlying9
  a9 := Try.isAgg9
  z9 := Try.sizeOf9
  v9 := Try.zeroValue9
  t22 := Try.underlying99
  a22 := Try.isAgg99
  z22 := Try.sizeOf99
  v22 := Try.zeroValue99
  t25 := Try.underlying104
  a25 := Try.isAgg104
  z25 := Try.sizeOf104
  v25 := Try.zeroValue104
  t39 := Try.underlying122
  a39 := Try.isAgg122
  z39 := Try.sizeOf122
  v39 := Try.zeroValue122
  t45 := Try.underlying137
  a45 := Try.isAgg137
  z45 := Try.sizeOf137
  v45 := Try.zeroValue137
  t46 := Try.underlying138
  a46 := Try.isAgg138
  z46 := Try.sizeOf138
  v46 := Try.zeroValue138
  t50 := Try.underlying132
  a50 := Try.isAgg132
  z50 := Try.sizeOf132
  v50 := Try.zeroValue132
  t53 := Try.underlying124
  a53 := Try.isAgg124
  z53 := Try.sizeOf124
  v53 := Try.zeroValue124
  t55 := Try.underlying130
  a55 := Try.isAgg130
  z55 := Try.sizeOf130
  v55 := Try.zeroValue130
  t66 := Try.underlying151
  a66 := Try.isAgg151
  z66 := Try.sizeOf151
  v66 := Try.zeroValue151
  t70 := Try.underlying155
  a70 := Try.isAgg155
  z70 := Try.sizeOf155
  v70 := Try.zeroValue155
  t76 := Try.underlying157
  a76 := Try.isAgg157
  z76 := Try.sizeOf157
  v76 := Try.zeroValue157
  t77 := Try.underlying158
  a77 := Try.isAgg158
  z77 := Try.sizeOf158
  v77 := Try.zeroValue158 }
end Go.Proofs
/-! RowC -/
namespace Go.Gx
open Go.Proofs
set_option linter.unusedVariables false
set_option linter.unusedSimpArgs false
set_option maxRecDepth 100000
structure Row where
  d : List UInt8
  v : Value
  hd : d.length = 32
  hv : v.oneCell' = true
instance : Inhabited Row := ⟨⟨zD, .slice none 0 0, zD_len, rfl⟩⟩
def Row.enc (r : Row) : List Value := u8s r.d ++ [r.v]
def Row.cf (a b : Row) : Int := if ltD a.d b.d then -1 else 1
theorem Row.enc_len (r : Row) : r.enc.length = 33 := by simp [Row.enc, u8s, r.hd]
theorem Row.enc1 (r : Row) : Cells1 r.enc := by
  intro v hv
  rcases List.mem_append.1 hv with h | h
  · exact Cells1.u8s r.d v h
  · rw [List.mem_singleton.1 h]; exact r.hv
def rowsR (R : List Row) : List Value := (R.map Row.enc).flatten
theorem rowsR_len (R : List Row) : (rowsR R).length = R.length * 33 := by
  induction R with
  | nil => rfl
  | cons r R ih => rw [rowsR, List.map_cons, List.flatten_cons, List.length_append, Row.enc_len, List.length_cons]; rw [rowsR] at ih; omega
theorem rowsR_snoc (R : List Row) (r : Row) : rowsR (R ++ [r]) = rowsR R ++ r.enc := by simp [rowsR]
theorem rowsR_at : ∀ (R : List Row) (i j : Nat) (h : i < R.length), j < 33 → (rowsR R)[i * 33 + j]? = (R[i].enc)[j]?
  | r :: R, 0, j, _, hj => by
    rw [rowsR, List.map_cons, List.flatten_cons, Nat.zero_mul, Nat.zero_add, List.getElem?_append_left (by rw [Row.enc_len]; exact hj)]
    rfl
  | r :: R, i + 1, j, h, hj => by
    rw [rowsR, List.map_cons, List.flatten_cons, List.getElem?_append_right (by rw [Row.enc_len]; omega), Row.enc_len, show (i + 1) * 33 + j - 33 = i * 33 + j by omega]
    exact rowsR_at R i j (by simpa using h) hj
theorem Row.cf_lt (a b : Row) : ltOf Row.cf a b = ltD a.d b.d := by
  unfold ltOf Row.cf
  cases ltD a.d b.d <;> rfl
theorem Row.swo : Sort.SWO (ltOf Row.cf) where
  irrefl x := by rw [Row.cf_lt]; exact ltD_irrefl _
  trans x y z h1 h2 := by rw [Row.cf_lt] at *; exact ltD_trans _ _ _ h1 h2
  ntrans x y z h1 h2 := by
    rw [Row.cf_lt] at *
    cases h : ltD x.d z.d with
    | false => rfl
    | true =>
      cases h3 : ltD y.d x.d with
      | true => rw [ltD_trans _ _ _ h3 h] at h2; cases h2
      | false => rw [ltD_tri _ _ h1 h3] at h; rw [h] at h2; cases h2
theorem field_row : (8 : Nat) = 8 := rfl
theorem cmpRow_spec (x y : Row) (w0 : World) : Calls Try.prog 55 #[.agg x.enc.toArray, .agg y.enc.toArray] w0 (Ret0 (.int .i64 (Row.cf x y)) w0) := by
  have hs : Step [] [] w0 w0 := Step.refl w0
  have hless := fun w => less_spec x.hd y.hd w
  have hx0 : x.enc.take 32 = u8s x.d := by rw [Row.enc, List.take_append_of_le_length (by simp [u8s, x.hd]), List.take_of_length_le (by simp [u8s, x.hd])]
  have hy0 : y.enc.take 32 = u8s y.d := by rw [Row.enc, List.take_append_of_le_length (by simp [u8s, y.hd]), List.take_of_length_le (by simp [u8s, y.hd])]
  have hxl : (u8s x.d).length = 32 := by rw [u8s, List.length_map, x.hd]
  have hyl : (u8s y.d).length = 32 := by rw [u8s, List.length_map, y.hd]
  unfold Row.cf
  cases hb : ltD x.d y.d
  · simp only [hb] at hless
    refine calls (n := 10) Try.func55 rfl rfl rfl ?_
    repeat (first | refine CW.seq ?_ | refine CW.block ?_ | refine CW.skip ?_ | refine CW.label ?_ | refine CW.exit ?_ | refine CW.condT rfl ?_ | refine CW.condF rfl ?_)
    refine CW.reg ?_
    refine WL.box (cs := x.enc) rfl rfl rfl hs (fun b2 w hs => ?_)
    refine WL.box (cs := y.enc) rfl rfl rfl hs (fun b3 w hs => ?_)
    refine WL.val rfl (run_assign) ?_
    refine WL.nil ?_
    repeat (first | refine CW.seq ?_ | refine CW.block ?_ | refine CW.skip ?_ | refine CW.label ?_ | refine CW.exit ?_ | refine CW.condT rfl ?_ | refine CW.condF rfl ?_)
    refine CW.reg ?_
    refine WL.val rfl (run_field (o' := 0) Try.underlying101 rfl ty27 rfl rfl rfl) ?_
    refine WL.val rfl (run_loadN ty27 rfl hxl (by have h := (hs.a1).take 32; rw [hx0] at h; exact h)) ?_
    refine WL.val rfl (run_field (o' := 0) Try.underlying101 rfl ty27 rfl rfl rfl) ?_
    refine WL.val rfl (run_loadN ty27 rfl hyl (by have h := (hs.a0).take 32; rw [hy0] at h; exact h)) ?_
    refine WL.enter rfl (run_call en56 rfl rfl) (hless _) ?_
    rintro e w ⟨rfl, hq⟩
    refine ⟨_, rfl, ?_⟩
    replace hs := hs.callE hq
    refine WL.nil ?_
    repeat (first | refine CW.seq ?_ | refine CW.block ?_ | refine CW.skip ?_ | refine CW.label ?_ | refine CW.exit ?_)
    first | refine CW.condP rfl (fun h => ?_) (fun h => ?_) | refine CW.cond rfl (fun h => ?_) (fun h => ?_)
    · cases h
    · repeat (first | refine CW.seq ?_ | refine CW.block ?_ | refine CW.skip ?_ | refine CW.label ?_ | refine CW.exit ?_ | refine CW.condT rfl ?_ | refine CW.condF rfl ?_)
      refine CW.reg ?_
      refine WL.val rfl (run_assign) ?_
      refine WL.nil ?_
      repeat (first | refine CW.seq ?_ | refine CW.block ?_ | refine CW.skip ?_ | refine CW.label ?_ | refine CW.exit ?_ | refine CW.condT rfl ?_ | refine CW.condF rfl ?_)
      refine CW.ret ?_
      refine fin_ret1 rfl ?_
      exact ⟨rfl, hs.clear⟩
  · simp only [hb] at hless
    refine calls (n := 10) Try.func55 rfl rfl rfl ?_
    repeat (first | refine CW.seq ?_ | refine CW.block ?_ | refine CW.skip ?_ | refine CW.label ?_ | refine CW.exit ?_ | refine CW.condT rfl ?_ | refine CW.condF rfl ?_)
    refine CW.reg ?_
    refine WL.box (cs := x.enc) rfl rfl rfl hs (fun b2 w hs => ?_)
    refine WL.box (cs := y.enc) rfl rfl rfl hs (fun b3 w hs => ?_)
    refine WL.val rfl (run_assign) ?_
    refine WL.nil ?_
    repeat (first | refine CW.seq ?_ | refine CW.block ?_ | refine CW.skip ?_ | refine CW.label ?_ | refine CW.exit ?_ | refine CW.condT rfl ?_ | refine CW.condF rfl ?_)
    refine CW.reg ?_
    refine WL.val rfl (run_field (o' := 0) Try.underlying101 rfl ty27 rfl rfl rfl) ?_
    refine WL.val rfl (run_loadN ty27 rfl hxl (by have h := (hs.a1).take 32; rw [hx0] at h; exact h)) ?_
    refine WL.val rfl (run_field (o' := 0) Try.underlying101 rfl ty27 rfl rfl rfl) ?_
    refine WL.val rfl (run_loadN ty27 rfl hyl (by have h := (hs.a0).take 32; rw [hy0] at h; exact h)) ?_
    refine WL.enter rfl (run_call en56 rfl rfl) (hless _) ?_
    rintro e w ⟨rfl, hq⟩
    refine ⟨_, rfl, ?_⟩
    replace hs := hs.callE hq
    refine WL.nil ?_
    repeat (first | refine CW.seq ?_ | refine CW.block ?_ | refine CW.skip ?_ | refine CW.label ?_ | refine CW.exit ?_)
    first | refine CW.condP rfl (fun h => ?_) (fun h => ?_) | refine CW.cond rfl (fun h => ?_) (fun h => ?_)
    · repeat (first | refine CW.seq ?_ | refine CW.block ?_ | refine CW.skip ?_ | refine CW.label ?_ | refine CW.exit ?_ | refine CW.condT rfl ?_ | refine CW.condF rfl ?_)
      refine CW.reg ?_
      refine WL.val rfl (run_assign) ?_
      refine WL.nil ?_
      repeat (first | refine CW.seq ?_ | refine CW.block ?_ | refine CW.skip ?_ | refine CW.label ?_ | refine CW.exit ?_ | refine CW.condT rfl ?_ | refine CW.condF rfl ?_)
      refine CW.ret ?_
      refine fin_ret1 rfl ?_
      exact ⟨rfl, hs.clear⟩
    · cases h
/-- Nothing turned: draws and new blocks. -/
theorem Step.grown {L : List (Nat × Obj)} {w w' : World} (h : Step [] L w w') : ∃ q os, w' = Go.Sort.grow (w.drewN q) os := by
  refine ⟨w'.drawn - w.drawn, w'.heap.extract w.heap.size w'.heap.size, ?_⟩
  have hc := h.chg
  have h1 : w'.heap = w.heap ++ w'.heap.extract w.heap.size w'.heap.size := by
    apply Array.ext_getElem?
    intro i
    rw [Array.getElem?_append]
    by_cases hi : i < w.heap.size
    · rw [if_pos hi, hc.block i hi (by simp)]
    · rw [if_neg hi, Array.getElem?_extract]
      have hle := hc.size
      by_cases h2 : i < w'.heap.size
      · rw [if_pos (by omega), show w.heap.size + (i - w.heap.size) = i by omega]
      · rw [if_neg (by omega), Array.getElem?_eq_none (by omega)]
  have h2 : w'.drawn = w.drawn + (w'.drawn - w.drawn) := by have := hc.drawn; omega
  obtain ⟨hh, t, dr, o, out⟩ := w'
  obtain ⟨hh2, t2, dr2, o2, out2⟩ := w
  obtain rfl := hc.os
  obtain rfl := hc.tape
  obtain rfl := hc.output
  simp only [Go.Sort.grow, World.drewN]
  simp only at h1 h2
  rw [World.mk.injEq]
  exact ⟨h1, rfl, h2, rfl, rfl⟩
theorem cmpLays (blk off size : Nat) (w : World) : CmpLays Try.prog 55 #[] Row.enc 33 Row.cf blk off size w :=
  fun m os dk hs x y => (cmpRow_spec x y _).mono fun e w' ⟨h1, h2⟩ => ⟨h1, h2.grown⟩
end Go.Gx
/-! Sort2 -/
namespace Go.Gx
open Go.Proofs
set_option linter.unusedVariables false
set_option linter.unusedSimpArgs false
set_option maxRecDepth 100000
theorem flatK_rows (R : List Row) : Go.Sort.flatK Row.enc 33 R.toArray = (rowsR R).toArray := by
  apply Array.ext_getElem?
  intro t
  by_cases ht : t < R.length * 33
  · have hi : t / 33 < R.length := by omega
    have hj : t % 33 < 33 := Nat.mod_lt _ (by decide)
    have h := rowsR_at R (t / 33) (t % 33) hi hj
    rw [show t / 33 * 33 + t % 33 = t by omega] at h
    have hr : (rowsR R).toArray[t]? = R[t / 33].enc[t % 33]? := by rw [← h]; simp
    rw [hr]
    have h1 : t < (Go.Sort.flatK Row.enc 33 R.toArray).size := by simpa using ht
    rw [Array.getElem?_eq_getElem h1, ← getElem!_pos (Go.Sort.flatK Row.enc 33 R.toArray) t h1, Go.Sort.get_flatK _ _ _ _ (by simpa using ht)]
    have e : (R.toArray)[t / 33]! = R[t / 33] := by simp [hi]
    rw [e]
    have hl : t % 33 < (R[t / 33].enc).length := by rw [Row.enc_len]; exact hj
    rw [getElem!_pos (R[t / 33].enc) (t % 33) hl, List.getElem?_eq_getElem hl]
  · rw [Array.getElem?_eq_none (by simp; omega), Array.getElem?_eq_none (by simp [rowsR_len]; omega)]
theorem putCells_row (F : List Value) (cs : List Value) (h : F.length ≤ cs.length) : Go.Sort.putCells id 0 F.toArray cs.toArray = (F ++ cs.drop F.length).toArray := by
  apply Array.ext_getElem?
  intro i
  simp only [Go.Sort.putCells, Array.getElem?_mapIdx, List.getElem?_toArray]
  by_cases hi : i < F.length
  · rw [List.getElem?_append_left hi, List.getElem?_eq_getElem hi, List.getElem?_eq_getElem (by omega)]
    simp [hi]
  · rw [List.getElem?_append_right (by omega), List.getElem?_drop, show F.length + (i - F.length) = i by omega]
    cases hc : cs[i]? with
    | none => rfl
    | some v => simp [hi]
theorem perm_of_permIn {d d' : Array Row} (h : Sort.PermIn 0 d.size d d') : d'.toList.Perm d.toList := by
  have h1 := h.2.2
  have e1 : (d.extract 0 d.size).toList = d.toList := by simp
  have e2 : (d'.extract 0 d.size).toList = d'.toList := by rw [← h.1]; simp
  rwa [e1, e2] at h1
theorem sorted_of {d' : Array Row} (h : Sort.SortedIn (ltOf Row.cf) 0 d'.size d') : d'.toList.Pairwise (fun a b => ltD b.d a.d = false) := by
  rw [List.pairwise_iff_getElem]
  intro i j hi hj hij
  have hi' : i < d'.size := by simpa using hi
  have hj' : j < d'.size := by simpa using hj
  have h1 := h i j (Nat.zero_le _) hij hj'
  rw [Row.cf_lt, getElem!_pos d' i hi', getElem!_pos d' j hj'] at h1
  simpa using h1
theorem Step.grow {S : List Nat} {L : List (Nat × Obj)} {w0 w : World} (hs : Step S L w0 w) (os : Array Obj) : Step S L w0 (Go.Sort.grow w os) := by
  have hc : Step [] [] w (Go.Sort.grow w os) := by
    refine ⟨⟨rfl, rfl, rfl, ?_, fun k hk _ => ?_, Nat.le_refl _⟩, by simp, by simp, by simp⟩
    · show w.heap.size ≤ (w.heap ++ os).size
      simp
    · show (w.heap ++ os)[k]? = _
      rw [Array.getElem?_append_left hk]
  exact hs.call0 hc
theorem mapBlock_blk {w : World} {b : Nat} {T : TypeId} {cs cs' : List Value} {f : Array Value → Array Value} (h : w.heap[b]? = some (blk T cs)) (hf : f cs.toArray = cs'.toArray) : Go.Sort.mapBlock w b f = { w with heap := w.heap.setIfInBounds b (blk T cs') } := by
  unfold Go.Sort.mapBlock
  congr 1
  apply Array.ext_getElem?
  intro i
  rw [Array.getElem?_modify, Array.getElem?_setIfInBounds]
  have hb := lt_of_get h
  by_cases hi : b = i
  · subst hi
    rw [if_pos rfl, if_pos rfl, if_pos hb, h]
    simp [Go.Sort.onCells, blk, hf]
  · rw [if_neg hi, if_neg hi]
theorem sort_spec {u : Value} {R : List Row} {Lu : List (Nat × Obj)} (hu : OwnSl 101 33 u R.length (rowsR R) Lu) (w0 : World) (hO : Step (Lu.map (·.1)) Lu w0 w0) (hsz : R.length < 4611686018427387904) :
    Calls Try.prog 54 #[u, .func (.func 55) #[] #[]] w0 (fun e w' => ∃ R' Lu', e = .returned (.tuple #[]) ∧ R'.Perm R ∧ R'.Pairwise (fun a b => ltD b.d a.d = false) ∧ OwnSl 101 33 u R'.length (rowsR R') Lu' ∧ Step (Lu.map (·.1)) Lu' w0 w') := by
  obtain ⟨hl, ⟨rfl, h0, rfl⟩ | ⟨b, cap, more, rfl, rfl, hcap⟩⟩ := hu
  · obtain rfl : R = [] := List.eq_nil_of_length_eq_zero h0
    refine (AnyF.slices_SortFunc_none Try.sortRow none 0 (.func (.func 55) #[] #[]) w0).mono fun e w' ⟨h1, h2⟩ => ?_
    subst h2
    exact ⟨[], [], h1, List.Perm.refl _, List.Pairwise.nil, OwnSl.nil _ _, hO⟩
  · have hb : w0.heap[b]? = some (blk 101 (rowsR R ++ more)) := hO.hd
    have eg : ∀ args w, (callFunc 55 args).run Try.prog w = .ok (.enter 55 args) w := enters_of Try.func55 (by kernel_rfl) rfl
    have hH : Go.Sort.HoldsK Row.enc 33 w0 b 0 R.toArray := by
      unfold Go.Sort.HoldsK
      rw [flatK_rows]
      intro j hj
      have hj' : j < (rowsR R).length := by simpa using hj
      rw [Nat.zero_add, cell_blk hb, List.getElem?_append_left hj', frozen_blk hb]
      refine ⟨?_, rfl⟩
      rw [List.getElem?_eq_getElem hj']
      simp [hj']
    have hcon := AnyQ.slices_SortFunc Try.sortRow 33 Try.isAgg101 Try.sizeOf101 Row.enc Row.enc_len Row.enc1 Row.cf Row.swo 55 #[] b 0 cap R.toArray w0 eg (cmpLays b 0 _ w0) hH (lt_of_get hb) (by simpa using hsz)
    rw [List.size_toArray] at hcon
    refine hcon.mono fun e w' ⟨h1, d', n, os, hp, hso, hw⟩ => ?_
    have hp1 := perm_of_permIn (d := R.toArray) (by simpa using hp)
    have hsz' : d'.size = R.length := by have := hp.1; simpa using this
    rw [← hsz'] at hso
    have hlen : (rowsR d'.toList).length = (rowsR R).length := by rw [rowsR_len, rowsR_len, hp1.length_eq]
    refine ⟨d'.toList, [(b, blk 101 (rowsR d'.toList ++ more))], h1, hp1, sorted_of hso, ⟨rowsR_len _, .inr ⟨b, cap, more, ?_, rfl, ?_⟩⟩, ?_⟩
    · rw [hp1.length_eq]
    · rw [List.length_append, hlen, ← List.length_append]; exact hcap
    · subst hw
      have hf : Go.Sort.flatK Row.enc 33 d' = (rowsR d'.toList).toArray := by rw [← flatK_rows]
      have hput : Go.Sort.putCells id 0 (rowsR d'.toList).toArray (rowsR R ++ more).toArray = (rowsR d'.toList ++ more).toArray := by
        rw [putCells_row _ _ (by rw [hlen, List.length_append]; omega), hlen, List.drop_left]
      have hs1 : Step [b] [(b, blk 101 (rowsR R ++ more))] w0 (Go.Sort.ahead w0 n) := Step.drewN hO n
      show Step [b] _ w0 (Go.Sort.grow (Go.Sort.mapBlock (Go.Sort.ahead w0 n) b (Go.Sort.putCells id 0 (Go.Sort.flatK Row.enc 33 d'))) os)
      rw [hf, mapBlock_blk hs1.hd hput]
      exact (hs1.setO _).grow os
end Go.Gx
/-! Store14 -/
namespace Go.Gx
open Go.Proofs
set_option linter.unusedVariables false
set_option linter.unusedSimpArgs false
set_option maxRecDepth 100000
theorem exists_cons' {α : Type} {l : List α} {n : Nat} (h : l.length = n + 1) : ∃ a t, l = a :: t ∧ t.length = n := by
  cases l with
  | nil => simp at h
  | cons a t => exact ⟨a, t, rfl, by simpa using h⟩
theorem cells32 {l : List UInt8} (h : l.length = 32) : ∃ a0 a1 a2 a3 a4 a5 a6 a7 a8 a9 a10 a11 a12 a13 a14 a15 a16 a17 a18 a19 a20 a21 a22 a23 a24 a25 a26 a27 a28 a29 a30 a31, l = [a0, a1, a2, a3, a4, a5, a6, a7, a8, a9, a10, a11, a12, a13, a14, a15, a16, a17, a18, a19, a20, a21, a22, a23, a24, a25, a26, a27, a28, a29, a30, a31] := by
  have hobt := exists_cons' h
  obtain ⟨a0, l0, rfl, h0⟩ := hobt
  have hobt := exists_cons' h0
  obtain ⟨a1, l1, rfl, h1⟩ := hobt
  have hobt := exists_cons' h1
  obtain ⟨a2, l2, rfl, h2⟩ := hobt
  have hobt := exists_cons' h2
  obtain ⟨a3, l3, rfl, h3⟩ := hobt
  have hobt := exists_cons' h3
  obtain ⟨a4, l4, rfl, h4⟩ := hobt
  have hobt := exists_cons' h4
  obtain ⟨a5, l5, rfl, h5⟩ := hobt
  have hobt := exists_cons' h5
  obtain ⟨a6, l6, rfl, h6⟩ := hobt
  have hobt := exists_cons' h6
  obtain ⟨a7, l7, rfl, h7⟩ := hobt
  have hobt := exists_cons' h7
  obtain ⟨a8, l8, rfl, h8⟩ := hobt
  have hobt := exists_cons' h8
  obtain ⟨a9, l9, rfl, h9⟩ := hobt
  have hobt := exists_cons' h9
  obtain ⟨a10, l10, rfl, h10⟩ := hobt
  have hobt := exists_cons' h10
  obtain ⟨a11, l11, rfl, h11⟩ := hobt
  have hobt := exists_cons' h11
  obtain ⟨a12, l12, rfl, h12⟩ := hobt
  have hobt := exists_cons' h12
  obtain ⟨a13, l13, rfl, h13⟩ := hobt
  have hobt := exists_cons' h13
  obtain ⟨a14, l14, rfl, h14⟩ := hobt
  have hobt := exists_cons' h14
  obtain ⟨a15, l15, rfl, h15⟩ := hobt
  have hobt := exists_cons' h15
  obtain ⟨a16, l16, rfl, h16⟩ := hobt
  have hobt := exists_cons' h16
  obtain ⟨a17, l17, rfl, h17⟩ := hobt
  have hobt := exists_cons' h17
  obtain ⟨a18, l18, rfl, h18⟩ := hobt
  have hobt := exists_cons' h18
  obtain ⟨a19, l19, rfl, h19⟩ := hobt
  have hobt := exists_cons' h19
  obtain ⟨a20, l20, rfl, h20⟩ := hobt
  have hobt := exists_cons' h20
  obtain ⟨a21, l21, rfl, h21⟩ := hobt
  have hobt := exists_cons' h21
  obtain ⟨a22, l22, rfl, h22⟩ := hobt
  have hobt := exists_cons' h22
  obtain ⟨a23, l23, rfl, h23⟩ := hobt
  have hobt := exists_cons' h23
  obtain ⟨a24, l24, rfl, h24⟩ := hobt
  have hobt := exists_cons' h24
  obtain ⟨a25, l25, rfl, h25⟩ := hobt
  have hobt := exists_cons' h25
  obtain ⟨a26, l26, rfl, h26⟩ := hobt
  have hobt := exists_cons' h26
  obtain ⟨a27, l27, rfl, h27⟩ := hobt
  have hobt := exists_cons' h27
  obtain ⟨a28, l28, rfl, h28⟩ := hobt
  have hobt := exists_cons' h28
  obtain ⟨a29, l29, rfl, h29⟩ := hobt
  have hobt := exists_cons' h29
  obtain ⟨a30, l30, rfl, h30⟩ := hobt
  have hobt := exists_cons' h30
  obtain ⟨a31, l31, rfl, h31⟩ := hobt
  obtain rfl := List.eq_nil_of_length_eq_zero h31
  exact ⟨a0, a1, a2, a3, a4, a5, a6, a7, a8, a9, a10, a11, a12, a13, a14, a15, a16, a17, a18, a19, a20, a21, a22, a23, a24, a25, a26, a27, a28, a29, a30, a31, rfl⟩
theorem bld_row32 (a0 a1 a2 a3 a4 a5 a6 a7 a8 a9 a10 a11 a12 a13 a14 a15 a16 a17 a18 a19 a20 a21 a22 a23 a24 a25 a26 a27 a28 a29 a30 a31 : UInt8) (a : Option Addr) (n c : Nat) (w : World) : (Instr.build 101 #[(0, .agg (u8s [a0, a1, a2, a3, a4, a5, a6, a7, a8, a9, a10, a11, a12, a13, a14, a15, a16, a17, a18, a19, a20, a21, a22, a23, a24, a25, a26, a27, a28, a29, a30, a31]).toArray), (1, .slice a n c)]).run Try.prog w = .ok (.agg (u8s [a0, a1, a2, a3, a4, a5, a6, a7, a8, a9, a10, a11, a12, a13, a14, a15, a16, a17, a18, a19, a20, a21, a22, a23, a24, a25, a26, a27, a28, a29, a30, a31] ++ [Value.slice a n c]).toArray) w := by kernel_rfl
theorem bld_row {d : List UInt8} (hd : d.length = 32) (a : Option Addr) (n c : Nat) (w : World) : (Instr.build 101 #[(0, .agg (u8s d).toArray), (1, .slice a n c)]).run Try.prog w = .ok (.agg (u8s d ++ [Value.slice a n c]).toArray) w := by
  have hobt := cells32 hd
  obtain ⟨a0, a1, a2, a3, a4, a5, a6, a7, a8, a9, a10, a11, a12, a13, a14, a15, a16, a17, a18, a19, a20, a21, a22, a23, a24, a25, a26, a27, a28, a29, a30, a31, rfl⟩ := hobt
  exact bld_row32 a0 a1 a2 a3 a4 a5 a6 a7 a8 a9 a10 a11 a12 a13 a14 a15 a16 a17 a18 a19 a20 a21 a22 a23 a24 a25 a26 a27 a28 a29 a30 a31 a n c w
def datV (v : Value) : Value := match v with | .agg a => (a[0]?).getD (.slice none 0 0) | _ => .slice none 0 0
theorem all_spec {bs k cap used last m gets puts clock : Nat} {M : List MEnt} (w0 : World) (hb : w0.heap[bs]? = some (blk 83 (stC k cap used last m gets puts))) (hm : w0.heap[m]? = some (mapObj M clock))
    (hM : Keys32 M) (hB : Born M clock) (hV : ∀ p ∈ M, BlobV p.2.1) (hML : M.length ≤ 1099511627776) :
    Calls Try.prog 36 #[.pointer (some ⟨bs, 0, none⟩)] w0 (fun e w' => ∃ b3 lv Lv R, e = .returned (.func (.func 57) #[] #[.pointer (some ⟨b3, 0, none⟩)]) ∧ ((R : List Row).map (fun r => (r.d, r.v))).Perm (M.map (fun p => (p.1, datV p.2.1))) ∧ R.Pairwise (fun a b => ltD b.d a.d = false) ∧
      OwnSl 101 33 lv R.length (rowsR R) Lv ∧ Step [] ((b3, blk 99 [lv]) :: Lv) w0 w') := by
  have hs : Step [] [] w0 w0 := Step.refl w0
  have hat : At w0 bs 0 (stC k cap used last m gets puts) := At.of_blk hb
  refine calls (n := 26) Try.func36 rfl rfl rfl ?_
  repeat (first | refine CW.seq ?_ | refine CW.block ?_ | refine CW.skip ?_ | refine CW.label ?_ | refine CW.exit ?_ | refine CW.condT rfl ?_ | refine CW.condF rfl ?_)
  refine CW.reg ?_
  refine WL.val rfl (run_assign) ?_
  refine WL.nil ?_
  repeat (first | refine CW.seq ?_ | refine CW.block ?_ | refine CW.skip ?_ | refine CW.label ?_ | refine CW.exit ?_ | refine CW.condT rfl ?_ | refine CW.condF rfl ?_)
  refine CW.reg ?_
  refine WL.alloc ty99 rfl hs (fun b3 w hs => ?_)
  refine WL.nil ?_
  repeat (first | refine CW.seq ?_ | refine CW.block ?_ | refine CW.skip ?_ | refine CW.label ?_ | refine CW.exit ?_ | refine CW.condT rfl ?_ | refine CW.condF rfl ?_)
  refine CW.reg ?_
  refine WL.val rfl (run_move) ?_
  refine WL.val rfl (run_nilCheck rfl) ?_
  refine WL.val rfl (run_field (o' := 4) Try.underlying83 rfl ty81 rfl rfl rfl) ?_
  refine WL.val rfl (run_load1 ty81 rfl ((hat.step hs.clear (by simp)).cell (j := 4) rfl)) ?_
  refine WL.rangeM Try.underlying81 rfl (hs.old hm (by simp)) rfl hs (fun b10 w hs => ?_)
  refine WL.nil ?_
  repeat (first | refine CW.seq ?_ | refine CW.block ?_ | refine CW.skip ?_ | refine CW.label ?_ | refine CW.exit ?_ | refine CW.condT rfl ?_ | refine CW.condF rfl ?_)
  refine CW.loop (fun mm f w' => ∃ done left R lv Lv, mm = left.length ∧ (done ++ left).Perm M ∧ (R : List Row).map (fun r => (r.d, r.v)) = done.map (fun p : MEnt => (p.1, datV p.2.1)) ∧ OwnSl 101 33 lv R.length (rowsR R) Lv ∧ Step [] ((b10, iterO m clock done) :: (b3, blk 99 [lv]) :: Lv) w0 w' ∧ Holds f [(0, .pointer (some ⟨bs, 0, none⟩)), (3, .pointer (some ⟨b3, 0, none⟩)), (10, .pointer (some ⟨b10, 0, none⟩))]) (m := M.length) ?_ ?_
  · exact ⟨[], M, [], _, [], rfl, List.Perm.refl _, rfl, OwnSl.nil _ _, hs, rfl, rfl, rfl, trivial⟩
  · rintro mm f w ⟨done, left, R, lv, Lv, rfl, hperm, hR, hlv, hs, hf⟩
    have hobt := hf.chain
    obtain ⟨g, rfl⟩ := hobt
    have hRl : R.length = done.length := by have := congrArg List.length hR; simpa using this
    by_cases hne : left = []
    · subst hne
      repeat (first | refine CW.seq ?_ | refine CW.block ?_ | refine CW.skip ?_ | refine CW.label ?_ | refine CW.exit ?_ | refine CW.condT rfl ?_ | refine CW.condF rfl ?_)
      refine CW.reg ?_
      refine WL.val rfl (run_nextMEnd rfl hs.hd (hs.old hm (by simp)) hB hperm) ?_
      refine WL.val rfl (run_extract rfl rfl) ?_
      refine WL.nil ?_
      repeat (first | refine CW.seq ?_ | refine CW.block ?_ | refine CW.skip ?_ | refine CW.label ?_ | refine CW.exit ?_)
      first | refine CW.condP rfl (fun h => ?_) (fun h => ?_) | refine CW.cond rfl (fun h => ?_) (fun h => ?_)
      · cases h
      have hln : R.length < 4611686018427387904 := by
        have := hperm.length_eq
        simp only [List.append_nil] at this
        omega
      replace hs := Step.append_comm (L1 := [_, _]) (L2 := Lv) hs
      have hO := Step.own (L1 := Lv) hs
      repeat (first | refine CW.seq ?_ | refine CW.block ?_ | refine CW.skip ?_ | refine CW.label ?_ | refine CW.exit ?_ | refine CW.condT rfl ?_ | refine CW.condF rfl ?_)
      refine CW.reg ?_
      refine WL.val rfl (run_load1 ty99 rfl ((hs.append_comm).c1 (v := lv) rfl)) ?_
      refine WL.enter rfl (run_call en54 rfl rfl) (sort_spec hlv _ (Step.own (L1 := Lv) hs) hln) ?_
      rintro e w ⟨R', Lu', rfl, hp', hso, hlv', hq⟩
      refine ⟨_, rfl, ?_⟩
      replace hs := Step.call (L1 := Lv) hs hq
      refine WL.nil ?_
      repeat (first | refine CW.seq ?_ | refine CW.block ?_ | refine CW.skip ?_ | refine CW.label ?_ | refine CW.exit ?_ | refine CW.condT rfl ?_ | refine CW.condF rfl ?_)
      refine CW.reg ?_
      refine WL.val rfl (run_makeFuncC rfl) ?_
      refine WL.val rfl (run_assign) ?_
      refine WL.nil ?_
      repeat (first | refine CW.seq ?_ | refine CW.block ?_ | refine CW.skip ?_ | refine CW.label ?_ | refine CW.exit ?_ | refine CW.condT rfl ?_ | refine CW.condF rfl ?_)
      refine CW.ret ?_
      refine fin_ret1 rfl ?_
      rw [List.append_nil] at hperm
      refine ⟨b3, lv, Lu', R', rfl, ?_, hso, hlv', (Step.append_comm (L1 := Lu') (L2 := [_, _]) hs).tail⟩
      exact (hp'.map _).trans (by rw [hR]; exact hperm.map _)
    · repeat (first | refine CW.seq ?_ | refine CW.block ?_ | refine CW.skip ?_ | refine CW.label ?_ | refine CW.exit ?_ | refine CW.condT rfl ?_ | refine CW.condF rfl ?_)
      refine CW.reg ?_
      refine WL.nextM rfl rfl hs (hs.old hm (by simp)) hB hperm hne (fun p left' w hleft hperm hs => ?_)
      refine WL.val rfl (run_extract rfl rfl) ?_
      refine WL.nil ?_
      have hpM : p ∈ M := hperm.mem_iff.1 (by simp)
      have hpv := hV p hpM
      obtain ⟨pd, pv, pb⟩ := p
      obtain ⟨a, nn, c, st, rfl⟩ := hpv
      have hpd : pd.length = 32 := hM _ hpM
      have hdl : (u8s pd).length = 32 := by rw [u8s, List.length_map, hpd]
      have hlen : left.length = left'.length + 1 := by rw [hleft.length_eq]; rfl
      have hdn : done.length < M.length := by
        have := hperm.length_eq
        simp only [List.length_append, List.length_cons, List.length_nil] at this
        omega
      repeat (first | refine CW.seq ?_ | refine CW.block ?_ | refine CW.skip ?_ | refine CW.label ?_ | refine CW.exit ?_)
      first | refine CW.condP rfl (fun h => ?_) (fun h => ?_) | refine CW.cond rfl (fun h => ?_) (fun h => ?_)
      · let r : Row := ⟨pd, .slice a nn c, hpd, rfl⟩
        have hre : (u8s pd ++ [Value.slice a nn c]).length = 33 := r.enc_len
        repeat (first | refine CW.seq ?_ | refine CW.block ?_ | refine CW.skip ?_ | refine CW.label ?_ | refine CW.exit ?_ | refine CW.condT rfl ?_ | refine CW.condF rfl ?_)
        refine CW.reg ?_
        refine WL.val rfl (run_entryM rfl hs.hd (hs.old hm (by simp)) hB hpM) ?_
        refine WL.val rfl (run_extract rfl rfl) ?_
        refine WL.val rfl (run_extract rfl rfl) ?_
        refine WL.alloc ty27 rfl hs (fun b4 w hs => ?_)
        refine WL.alloc ty85 rfl hs (fun b5 w hs => ?_)
        first | refine WL.storeAll ty27 rfl rfl ((hdl)) (Cells1.u8s _) hs (by first | rfl | assumption) (fun w hs => ?_) | refine WL.storeAll_1 ty27 rfl rfl ((hdl)) (Cells1.u8s _) hs (by first | rfl | assumption) (fun w hs => ?_) | refine WL.storeAll_2 ty27 rfl rfl ((hdl)) (Cells1.u8s _) hs (by first | rfl | assumption) (fun w hs => ?_) | refine WL.storeAll_3 ty27 rfl rfl ((hdl)) (Cells1.u8s _) hs (by first | rfl | assumption) (fun w hs => ?_) | refine WL.storeAll_4 ty27 rfl rfl ((hdl)) (Cells1.u8s _) hs (by first | rfl | assumption) (fun w hs => ?_) | refine WL.storeAll ty27 rfl rfl ((hdl)) (Cells1.u8s _) hs (by first | rfl | assumption) (fun w hs => ?_)
        first | refine WL.storeAll ty85 rfl rfl ((by rfl)) (Cells1.of_all rfl) hs (by first | rfl | assumption) (fun w hs => ?_) | refine WL.storeAll_1 ty85 rfl rfl ((by rfl)) (Cells1.of_all rfl) hs (by first | rfl | assumption) (fun w hs => ?_) | refine WL.storeAll_2 ty85 rfl rfl ((by rfl)) (Cells1.of_all rfl) hs (by first | rfl | assumption) (fun w hs => ?_) | refine WL.storeAll_3 ty85 rfl rfl ((by rfl)) (Cells1.of_all rfl) hs (by first | rfl | assumption) (fun w hs => ?_) | refine WL.storeAll_4 ty85 rfl rfl ((by rfl)) (Cells1.of_all rfl) hs (by first | rfl | assumption) (fun w hs => ?_) | refine WL.storeAll ty85 rfl rfl ((by rfl)) (Cells1.of_all rfl) hs (by first | rfl | assumption) (fun w hs => ?_)
        refine WL.nil ?_
        repeat (first | refine CW.seq ?_ | refine CW.block ?_ | refine CW.skip ?_ | refine CW.label ?_ | refine CW.exit ?_ | refine CW.condT rfl ?_ | refine CW.condF rfl ?_)
        refine CW.reg ?_
        refine WL.val rfl (run_load1 ty99 rfl (hs.tail.tail.tail.c0 rfl)) ?_
        refine WL.val rfl (run_loadN ty27 rfl hdl hs.a1) ?_
        refine WL.val rfl (run_field (o' := 0) Try.underlying85 rfl ty22 rfl rfl rfl) ?_
        refine WL.val rfl (run_load1 ty22 rfl (hs.c0 (v := .slice a nn c) rfl)) ?_
        refine WL.val rfl (run_build rfl ((bld_row hpd a nn c _))) ?_
        refine WL.buildSlice (cs := u8s pd ++ [Value.slice a nn c]) Try.underlying99 ty101 rfl (by decide) rfl (filled1 hre rfl) rfl hs (fun b21 w hs => ?_)
        have hsl : Sl w 33 (.slice (some ⟨b21, 0, none⟩) 1 1) 1 (u8s pd ++ [Value.slice a nn c]) := .own1 hs (by rw [hre])
        refine WL.append Try.underlying99 Try.underlying99 ty101 rfl (by decide) rfl rfl (hlv) (Step.append_comm (L1 := [_, _, _, _, _]) (L2 := Lv) hs) (hsl) (r.enc1) (by first | omega | (simp only [List.length_append, List.length_cons, List.length_nil]; omega)) rfl (fun v22 Lv22 w hv22 hs => ?_)
        replace hs := Step.front [_, _, _, _] (Step.append_comm (L1 := Lv22) (L2 := [_, _, _, _, _]) hs)
        refine WL.store1 ty99 rfl rfl (hv22.one) (hs) (by first | (simp; done) | omega | (simp only [List.length_append, List.length_replicate, List.length_cons, List.length_nil, List.length_set]; omega) | (simp [Ent.cells, u8s]; done) | exact Nat.le_of_ble_eq_true rfl) (fun w hs => ?_)
        refine WL.nil ?_
        have e1 : R.length + 1 = (R ++ [r]).length := by simp
        have e2 : rowsR R ++ (u8s pd ++ [Value.slice a nn c]) = rowsR (R ++ [r]) := (rowsR_snoc R r).symm
        rw [e1, e2] at hv22
        repeat (first | refine CW.seq ?_ | refine CW.block ?_ | refine CW.skip ?_ | refine CW.label ?_ | refine CW.exit ?_)
        refine (show _ ∧ _ from ⟨rfl, _, ?_, done ++ [(pd, .agg #[.slice a nn c, .int .i64 st], pb)], left', R ++ [r], v22, Lv22, rfl, hperm, ?_, hv22, ?_, rfl, rfl, rfl, trivial⟩)
        · omega
        · rw [List.map_append, List.map_append, hR]; rfl
        · exact Step.append_comm (L1 := Lv22) (L2 := [_, _]) (Step.dropL (L1 := [_, _, _]) (Step.append_comm (L1 := [_, _]) (L2 := _ :: _ :: _ :: Lv22) (hs.front [_, _, _, _])))
      · cases h
end Go.Gx
/-! Range -/
namespace Go.Gx
set_option linter.unusedVariables false
set_option linter.unusedSimpArgs false

/-- The wide fence, plain or within a round. -/
def Fr (ro : Option Nat) : Fence := { Fence.wide with round := ro }
theorem fr_room (ro : Option Nat) (n : Nat) : (Fr ro).room n := fun _ h => by simp [Fr, Fence.wide] at h
theorem fr_calls {ro : Option Nat} {k : Nat} {P : Program} {F : FuncId} {args : Array Value} {w : World} {R : Ending → World → Prop} (h : Calls P F args w R) : CallsIn (Fr ro) k P F args w R := callsIn_wide.2 h
theorem fr_calls' {ro : Option Nat} {k : Nat} {P : Program} {F : FuncId} {args : Array Value} {w : World} {R : Ending → World → Prop} (h : CallsIn (Fr ro) k P F args w R) : Calls P F args w R := callsIn_wide.1 h

section
variable {P : Program} {ops : Array Oper}

def plainOp (o : Oper) : Bool := match o.op with | .defer _ => false | _ => true
theorem plainOp_ne {o : Oper} (h : plainOp o = true) : ∀ c, o.op ≠ .defer c := fun c e => by
  unfold plainOp at h
  rw [e] at h
  cases h
theorem semAt_fr {ro : Option Nat} {o : Oper} (h : plainOp o = true) (ρ : Operand → Value) : o.semAt ro ρ = execOp ρ o := Oper.semAt_eq ro ρ o (plainOp_ne h)

/-- What holds of a list of plain operations holds of it within a round. -/
theorem wpListIn_of {ro : Option Nat} {Q : Exit → Act → World → Prop} (hQ : ∀ a w, ¬ Q .outgrown a w) : ∀ (l : List Oper) (a : Act) (w : World), (l.all plainOp) = true → wpList P ops Q l a w → wpListIn (Fr ro) 0 P ops Q l a w
  | [], a, w, _, h => h
  | o :: l, a, w, hp, h => by
    rw [List.all_cons, Bool.and_eq_true] at hp
    have ih := fun a w => wpListIn_of (ro := ro) hQ l a w hp.2
    simp only [wpList] at h
    simp only [wpListIn]
    split
    · rename_i hw
      rw [if_pos hw] at h
      rcases h with h | ⟨_, a0, w0, h0⟩
      · refine ⟨fun f _ => trivial, ?_⟩
        rw [semAt_fr (ro := (Fr ro).round) hp.1]
        unfold Oper.wp at h
        generalize (execOp a.eval o).run P w = r at h ⊢
        cases r with
        | ok x w' =>
          cases x <;> simp only [Oper.upon] at h <;> simp only [Oper.uponIn]
          case value => exact ih _ _ h
          case skip => exact ih _ _ h
          case defer => exact ih _ _ h
          case enter =>
            refine ⟨fun h => by simp [Fr, Fence.wide] at h, fr_calls (h.mono fun e w' hR => ?_)⟩
            cases e with
            | returned v => exact ih _ _ hR
            | panicked ch => exact hR
            | outgrown => exact hR
          case row =>
            refine ⟨fun h => by simp [Fr, Fence.wide] at h, ?_⟩
            intro c cs _
            have hobt := h c cs
            obtain ⟨v, w', hv, hs⟩ := hobt
            exact ⟨v, w', ih _ _ hv, stepsIn_wide.2 hs⟩
        | halt x w' =>
          cases x <;> simp only [Oper.upon] at h <;> simp only [Oper.uponIn]
          exact h
      · exact absurd h0 (hQ _ _)
    · rename_i hw
      rw [if_neg hw] at h
      exact ⟨fun f _ => trivial, ih _ _ h⟩
end

structure WLI (P : Program) (ro : Option Nat) (ops : Array Oper) (Q : Post) (n : Nat) (l : List Oper) (f : Slots) (ds : List Deferred) (w : World) : Prop where
  out : ∀ a, Rep n f ds a → wpListIn (Fr ro) 0 P ops (lift n Q) l a w
structure CWI (P : Program) (ro : Option Nat) (c : Code) (Q : Post) (n : Nat) (f : Slots) (ds : List Deferred) (w : World) : Prop where
  out : ∀ a, Rep n f ds a → c.wpIn (Fr ro) 0 P (lift n Q) a w

section
variable {P : Program} {ro : Option Nat} {ops : Array Oper} {Q : Post} {n : Nat} {rest : List Oper} {f : Slots} {ds : List Deferred} {w w' : World} {o : Op} {ty : TypeId} {pos : String} {af : Array Edge}

theorem WLI.nil (h : Q .normal f ds w) : WLI P ro ops Q n [] f ds w := ⟨fun a ha => ⟨f, ds, ha, h⟩⟩
theorem WLI.val {d : Nat} {v : Value} (hp : plainOp ⟨some d, o, ty, pos, af, none⟩ = true) (hd : Nat.blt d n = true) (hrun : (execOp (ev f) ⟨some d, o, ty, pos, af, none⟩).run P w = .ok (.value v) w')
    (h : WLI P ro ops Q n rest (upd f d v) ds w') : WLI P ro ops Q n (⟨some d, o, ty, pos, af, none⟩ :: rest) f ds w :=
  ⟨fun a ha => wpListIn_plain rfl fun K hK => by
    refine ⟨fun f _ => trivial, ?_⟩
    rw [semAt_fr (ro := (Fr ro).round) hp, ha.eval, hrun]
    exact hK _ _ (h.out _ (ha.put hd v))⟩

/-- What a round of loop l on this value does: it tells whether it goes on. -/
def Yields (P : Program) (l : Nat) (args : Array Value) (w : World) (R : Bool → World → Prop) : Prop :=
  YieldAt Fence.wide 0 P l args w fun e w' => ∃ b, e = .returned (.bool b) ∧ R b w'
theorem Yields.mono {l : Nat} {args : Array Value} {R R' : Bool → World → Prop} (h : Yields P l args w R) (hr : ∀ b w, R b w → R' b w) : Yields P l args w R' := by
  obtain ⟨fn, tmps, as_, bd, h1, h2⟩ := h
  exact ⟨fn, tmps, as_, bd, h1, h2.mono fun e w ⟨b, he, hb⟩ => ⟨b, he, hr _ _ hb⟩⟩

/-- A call of yield. -/
theorem WLI.yield {d l : Nat} {fo : Operand} {args : Array Operand} {ats : Array TypeId} {vs : List Value} {R : Bool → World → Prop} (hd : Nat.blt d n = true) (hx : ev f fo = .func (.yield l) #[] #[]) (hv : args.toList.map (ev f) = vs)
    (hy : Yields P l vs.toArray w R) (h : ∀ b w', R b w' → WLI P ro ops Q n rest (upd f d (.bool b)) ds w') : WLI P ro ops Q n (⟨some d, .call { callee := .value fo, args, argTypes := ats }, ty, pos, af, none⟩ :: rest) f ds w :=
  ⟨fun a ha => wpListIn_plain rfl fun K hK => by
    refine ⟨fun f _ => trivial, ?_⟩
    have e : args.map (ev f) = vs.toArray := by rw [← hv]; apply Array.ext'; simp
    obtain ⟨fn, tmps, as_, bd, h1, h2⟩ := hy
    have hrun : (execOp (ev f) ⟨some d, .call { callee := .value fo, args, argTypes := ats }, ty, pos, af, none⟩).run P w = .ok (.round l fn tmps as_ bd) w := by
      simp [execOp, resolve, hx, Deferred.ofValue, e, invoke, callFunc, h1]
    rw [semAt_fr (ro := (Fr ro).round) rfl, ha.eval, hrun]
    refine ⟨fun h => by simp [Fr, Fence.wide] at h, RoundIn.mono (F := Fr ro) (show RoundIn (Fr ro) 0 P l fn tmps as_ bd w _ from h2) fun e w' hR => ?_⟩
    obtain ⟨b, rfl, hb⟩ := hR
    exact hK _ _ ((h b w' hb).out _ (ha.put hd (.bool b)))⟩
end

section
variable {P : Program} {ro : Option Nat} {Q : Post} {n : Nat} {f : Slots} {ds : List Deferred} {w : World}

/-- A region that calls yield, in a function's own frame. -/
theorem CW.regY {id : Nat} {l : List Oper} (h : WLI P none l.toArray Q n l f ds w) : CW P (.region id l.toArray false) Q n f ds w :=
  ⟨fun a ha => wpIn_wide.1 (wpIn_region_lit (h.out a ha))⟩

def NoOut (Q : Post) : Prop := ∀ f ds w, ¬ Q .outgrown f ds w
/-- A region within a round, none of whose operations defers: as anywhere. -/
theorem CWI.reg {id : Nat} {l : List Oper} (hp : l.all plainOp = true) (hQ : NoOut Q) (h : WL P l.toArray Q n l f ds w) : CWI P ro (.region id l.toArray false) Q n f ds w :=
  ⟨fun a ha => wpIn_region_lit (wpListIn_of (fun a w ⟨f', ds', _, h⟩ => hQ _ _ _ h) l a w hp (h.out a ha))⟩

theorem CWI.mono {c : Code} {Q' : Post} (h : CWI P ro c Q n f ds w) (hq : ∀ e f ds w, Q e f ds w → Q' e f ds w) : CWI P ro c Q' n f ds w :=
  ⟨fun a ha => wpIn_mono (h.out a ha) fun e a w ⟨f', ds', hr, h⟩ => ⟨f', ds', hr, hq _ _ _ _ h⟩⟩
theorem CWI.seq {x y : Code} (h : CWI P ro x (thenC (CWI P ro y Q n) Q) n f ds w) : CWI P ro (.seq x y) Q n f ds w :=
  ⟨fun a ha => wpIn_seq (wpIn_mono (h.out a ha) fun e a' w' ⟨f', ds', hr, hq⟩ => by
    cases e with
    | normal => exact (show CWI P ro y Q n f' ds' w' from hq).out a' hr
    | exit id => exact ⟨f', ds', hr, hq⟩
    | goto id => exact ⟨f', ds', hr, hq⟩
    | ret => exact ⟨f', ds', hr, hq⟩
    | panic ch => exact ⟨f', ds', hr, hq⟩
    | outgrown => exact ⟨f', ds', hr, hq⟩)⟩
theorem CWI.cond {c : Operand} {x y : Code} {b : Bool} (hc : ev f c = .bool b) (ht : b = true → CWI P ro x Q n f ds w) (hf : b = false → CWI P ro y Q n f ds w) : CWI P ro (.cond c x y) Q n f ds w :=
  ⟨fun a ha => wpIn_cond_split (by rw [ha.eval]; exact hc) (fun h => (ht h).out a ha) (fun h => (hf h).out a ha)⟩
theorem CWI.condT {c : Operand} {x y : Code} (hc : ev f c = .bool true) (h : CWI P ro x Q n f ds w) : CWI P ro (.cond c x y) Q n f ds w :=
  .cond hc (fun _ => h) (fun h => by cases h)
theorem CWI.condF {c : Operand} {x y : Code} (hc : ev f c = .bool false) (h : CWI P ro y Q n f ds w) : CWI P ro (.cond c x y) Q n f ds w :=
  .cond hc (fun h => by cases h) (fun _ => h)
theorem CWI.block {id : Nat} {c : Code} (h : CWI P ro c (inB id Q) n f ds w) : CWI P ro (.block id c) Q n f ds w :=
  ⟨fun a ha => wpIn_block (wpIn_mono (h.out a ha) fun e a' w' ⟨f', ds', hr, hq⟩ => by
    cases e with
    | exit id' =>
      simp only [inB] at hq
      by_cases hid : id' = id
      · subst hid
        simp only [Exit.inBlock, if_true]
        exact ⟨f', ds', hr, by simpa using hq⟩
      · have hb : Nat.beq id' id = false := by
          cases hb : Nat.beq id' id with
          | true => exact absurd (Nat.eq_of_beq_eq_true hb) hid
          | false => rfl
        simp only [Exit.inBlock, hid, if_false]
        rw [hb] at hq
        exact ⟨f', ds', hr, hq⟩
    | normal => exact ⟨f', ds', hr, hq⟩
    | goto id => exact ⟨f', ds', hr, hq⟩
    | ret => exact ⟨f', ds', hr, hq⟩
    | panic ch => exact ⟨f', ds', hr, hq⟩
    | outgrown => exact ⟨f', ds', hr, hq⟩)⟩
theorem CWI.skip (h : Q .normal f ds w) : CWI P ro .skip Q n f ds w := ⟨fun a ha => wpIn_skip ⟨f, ds, ha, h⟩⟩
theorem CWI.ret (h : Q .ret f ds w) : CWI P ro .ret Q n f ds w := ⟨fun a ha => wpIn_ret ⟨f, ds, ha, h⟩⟩
theorem CWI.exit {id : Nat} (h : Q (.exit id) f ds w) : CWI P ro (.exit id) Q n f ds w := ⟨fun a ha => wpIn_exit ⟨f, ds, ha, h⟩⟩
theorem CWI.label {id : Nat} (h : Q .normal f ds w) : CWI P ro (.label id) Q n f ds w := ⟨fun a ha => wpIn_label ⟨f, ds, ha, h⟩⟩
theorem CWI.wide {c : Code} (h : CWI P none c Q n f ds w) : CW P c Q n f ds w := ⟨fun a ha => wpIn_wide.1 (h.out a ha)⟩
theorem CWI.ofWide {c : Code} (h : CW P c Q n f ds w) : CWI P none c Q n f ds w := ⟨fun a ha => wpIn_wide.2 (h.out a ha)⟩

/-- The record of a loop. -/
def RecOf (t : Tmp) (assign body : Code) (f : Slots) (n : Nat) (r : Loop) : Prop := r.params = #[t] ∧ r.assign = assign ∧ r.body = body ∧ r.tmps.size = n ∧ ∀ k, r.tmps.getD k undef = f k
def Loop.at (r : Loop) (s : LoopState) (p : Option Code) : Loop := { r with state := s, pending := p }
theorem RecOf.at {t : Tmp} {as_ bd : Code} {r : Loop} (h : RecOf t as_ bd f n r) (s : LoopState) (p : Option Code) : RecOf t as_ bd f n (Loop.at r s p) := h

/-- What a round's end must give: the record is set; then R. -/
def RQ (l : Nat) (R : Bool → World → Prop) : Post
  | .normal, _, _, w => ∃ S L w0 r, Step S ((l, .loop r) :: L) w0 w ∧ ∀ w', Step S ((l, .loop (Loop.at r .ready none)) :: L) w0 w' → R true w'
  | .ret, _, _, w => ∃ S L w0 r, Step S ((l, .loop r) :: L) w0 w ∧ ∀ w', Step S ((l, .loop (Loop.at r .done (some .ret))) :: L) w0 w' → R false w'
  | .exit id, _, _, w => ∃ S L w0 r, Step S ((l, .loop r) :: L) w0 w ∧ ∀ w', Step S ((l, .loop (Loop.at r .done (some (.exit id)))) :: L) w0 w' → R false w'
  | .goto id, _, _, w => False
  | .panic _, _, _, _ => False
  | .outgrown, _, _, _ => False

theorem rq_end {l : Nat} {R : Bool → World → Prop} {S : List Nat} {L : List (Nat × Obj)} {w0 w : World} {r : Loop} (hs : Step S ((l, .loop r) :: L) w0 w) (jump : Option Code) :
    ∃ w', (Instr.endRound l jump).run P w = .ok (.bool jump.isNone) w' ∧ Step S ((l, .loop (Loop.at r (if jump.isNone then .ready else .done) jump)) :: L) w0 w' :=
  ⟨_, run_endRound jump hs.hd, hs.setObj _⟩

/-- One round of an outermost or inner loop, out of its code's walk. -/
theorem yields_of {l : Nat} {v : Value} {t : Tmp} {as_ bd : Code} {r : Loop} {S : List Nat} {L : List (Nat × Obj)} {w0 : World} {R : Bool → World → Prop} (hr : RecOf t as_ bd f n r) (hst : r.state = .ready) (ht : Nat.blt t n = true) (hs : Step S ((l, .loop r) :: L) w0 w)
    (h : CWI P (some l) as_ (thenC (fun f1 ds1 w1 => ∃ S1 L1 w10 r1, Step S1 ((l, .loop r1) :: L1) w10 w1 ∧ r1.state = .ready ∧ ∀ w2, Step S1 ((l, .loop (Loop.at r1 .busy r1.pending)) :: L1) w10 w2 → CWI P (some l) bd (RQ l R) n f1 ds1 w2) (fun _ _ _ _ => False)) n (upd f t v) [] w) :
    Yields P l #[v] w R := by
  obtain ⟨h1, h2, h3, h4, h5⟩ := hr
  have hy := run_yield (P := P) (args := #[v]) hs.hd (by rw [h1]; rfl)
  refine ⟨_, _, _, _, hy, ?_⟩
  rw [h1, h2, h3]
  have hfold : (#[t].zip #[v]).foldl (fun (tmps : Array Value) (x : Tmp × Value) => match x with | (t, a) => tmps.setIfInBounds t a) r.tmps = r.tmps.setIfInBounds t v := by
    rw [← Array.foldl_toList, Array.toList_zip]
    rfl
  rw [hfold]
  have hrep0 : Rep n f [] { tmps := r.tmps, defers := [] } := ⟨h4, h5, rfl⟩
  have hrep := hrep0.put ht v
  have hw := h.out _ hrep
  refine roundIn_of_wpIn (F := Fence.wide) trivial (wpIn_mono (F := Fence.wide.inRound l) hw fun e a w1 ⟨f1, ds1, hr1, hq⟩ => ?_)
  cases e with
  | normal =>
    obtain ⟨S1, L1, w10, r1, hs1, hr1s, hb⟩ := hq
    refine ⟨_, run_beginRound hs1.hd hr1s, ?_⟩
    have hbw := hb _ (hs1.setObj (.loop (Loop.at r1 .busy r1.pending)))
    refine wpIn_mono (F := Fence.wide.inRound l) (hbw.out a hr1) fun e a2 w2 ⟨f2, ds2, hr2, hq2⟩ => ?_
    cases e with
    | normal =>
      obtain ⟨S2, L2, w20, r2, hs2, hR⟩ := hq2
      have hobt := rq_end (P := P) (R := R) hs2 none
      obtain ⟨w', he, hs'⟩ := hobt
      exact ⟨_, w', he, true, rfl, hR w' hs'⟩
    | ret =>
      obtain ⟨S2, L2, w20, r2, hs2, hR⟩ := hq2
      have hobt := rq_end (P := P) (R := R) hs2 (some .ret)
      obtain ⟨w', he, hs'⟩ := hobt
      exact ⟨_, w', he, false, rfl, hR w' hs'⟩
    | exit id =>
      obtain ⟨S2, L2, w20, r2, hs2, hR⟩ := hq2
      have hobt := rq_end (P := P) (R := R) hs2 (some (.exit id))
      obtain ⟨w', he, hs'⟩ := hobt
      exact ⟨_, w', he, false, rfl, hR w' hs'⟩
    | goto id => exact hq2.elim
    | panic ch => exact hq2.elim
    | outgrown => exact hq2.elim
  | exit id => exact hq.elim
  | goto id => exact hq.elim
  | ret => exact hq.elim
  | panic ch => exact hq.elim
  | outgrown => exact hq.elim

/-- What stands behind a range over a function. -/
def Behind (P : Program) (ro : Option Nat) (l : Nat) (Q : Post) (n : Nat) (f : Slots) (ds : List Deferred) (w : World) : Prop :=
  ∃ S L w0 r, Step S ((l, .loop r) :: L) w0 w ∧ r.state ≠ .busy ∧ ∀ w', Step S ((l, .loop (Loop.at r .exhausted r.pending)) :: L) w0 w' →
    match r.pending with
    | none => Q .normal f ds w'
    | some c => CWI P ro c Q n f ds w'

def markOf (b : Nat) : Deferred := { target := .collected b, args := #[] }

theorem rangePost_of {l : Nat} {a' : Act} (hr : Rep n f ds a') {e : Ending} {w1 : World} (h : (∃ v, e = .returned v) ∧ Behind P ro l Q n f ds w1) : rangePost (Fr ro) 0 P l (lift n Q) a' e w1 := by
  obtain ⟨⟨v, rfl⟩, S, L, w0, r, hs, hb, hk⟩ := h
  refine ⟨r.pending, _, run_endLoop hs.hd hb, ?_⟩
  have := hk _ (hs.setObj (.loop (Loop.at r .exhausted r.pending)))
  cases hp : r.pending with
  | none =>
    rw [hp] at this
    exact ⟨f, ds, hr, this⟩
  | some c =>
    rw [hp] at this
    exact this.out a' hr

/-- 'for x := range g { .. }' in a function's own frame. -/
theorem CW.rangeFunc {g : Operand} {t : Tmp} {as_ bd : Code} {F : FuncId} {cap : List Value} {S : List Nat} {L : List (Nat × Obj)} {w0 : World} (hF : En P F) (hg : ev f g = .func (.func F) #[] cap.toArray) (hs : Step S L w0 w)
    (h : ∀ l b0 r w2, RecOf t as_ bd f n r → r.state = .ready → r.pending = none → Step S ((l, .loop r) :: (b0, .deferred (some [])) :: L) w0 w2 →
      Calls P F (.func (.yield l) #[] #[] :: cap).toArray w2 fun e w' => (∃ v, e = .returned v) ∧ Behind P none l Q n f (markOf b0 :: ds) w') : CW P (.rangeFunc g #[t] as_ bd) Q n f ds w :=
  ⟨fun a ha => wpIn_wide.1 (wpIn_rangeFunc (F := Fence.wide) (n := 0) fun fn _ => by
    have hs1 := hs.alloc (.deferred (some []))
    have hs2 := hs1.alloc (.loop { state := .ready, pending := none, fn := fn, tmps := a.tmps, params := #[t], assign := as_, body := bd, defers := w.heap.size })
    have hsz : (w.alloc (.deferred (some []))).heap.size = w.heap.size + 1 := by simp
    rw [hsz] at hs2
    have hc := h (w.heap.size + 1) w.heap.size _ _ ⟨rfl, rfl, rfl, ha.size, ha.get⟩ rfl rfl hs2
    have hinv := invoke_fn (P := P) (w := (w.alloc (.deferred (some []))).alloc (.loop { state := .ready, pending := none, fn := fn, tmps := a.tmps, params := #[t], assign := as_, body := bd, defers := w.heap.size })) hF cap.toArray #[.func (.yield (w.heap.size + 1)) #[] #[]]
    refine ⟨_, _, _, { target := .fn (.func F) cap.toArray, args := #[.func (.yield (w.heap.size + 1)) #[] #[]] }, _, F, _, _, run_enterLoop_outer fn a.tmps #[t] as_ bd, ?_, fun f' _ => trivial, hinv, fun h => by simp [Fence.wide] at h, ?_⟩
    · have hk : ∀ v, ev f (.const v) = v := fun _ => rfl
      rw [ha.eval]
      simp [rangeCall, resolve, hg, Deferred.ofValue, hk]
    · have hh : (#[Value.func (.yield (w.heap.size + 1)) #[] #[]] ++ cap.toArray) = (Value.func (.yield (w.heap.size + 1)) #[] #[] :: cap).toArray := by apply Array.ext'; simp
      rw [hh]
      exact callsIn_wide.2 (hc.mono fun e w' hR => rangePost_of (ro := none) (ds := markOf w.heap.size :: ds) (a' := { tmps := a.tmps, defers := [{ target := .collected w.heap.size, args := #[] }] ++ a.defers }) ⟨ha.size, ha.get, by simp [ha.defers, markOf]⟩ hR))⟩

/-- The same within a round of loop l0. -/
theorem CWI.rangeFunc {g : Operand} {t : Tmp} {as_ bd : Code} {F : FuncId} {cap : List Value} {S : List Nat} {L : List (Nat × Obj)} {w0 : World} {l0 : Nat} {r0 : Loop} (hF : En P F) (hg : ev f g = .func (.func F) #[] cap.toArray) (hs : Step S L w0 w) (h0 : w.heap[l0]? = some (.loop r0))
    (h : ∀ l r w2, RecOf t as_ bd f n r → r.state = .ready → r.pending = none → Step S ((l, .loop r) :: L) w0 w2 →
      Calls P F (.func (.yield l) #[] #[] :: cap).toArray w2 fun e w' => (∃ v, e = .returned v) ∧ Behind P (some l0) l Q n f ds w') : CWI P (some l0) (.rangeFunc g #[t] as_ bd) Q n f ds w :=
  ⟨fun a ha => wpIn_rangeFunc (F := Fr (some l0)) (n := 0) fun fn _ => by
    have hs2 := hs.alloc (.loop { state := .ready, pending := none, fn := fn, tmps := a.tmps, params := #[t], assign := as_, body := bd, defers := r0.defers })
    have hc := h w.heap.size _ _ ⟨rfl, rfl, rfl, ha.size, ha.get⟩ rfl rfl hs2
    have hinv := invoke_fn (P := P) (w := w.alloc (.loop { state := .ready, pending := none, fn := fn, tmps := a.tmps, params := #[t], assign := as_, body := bd, defers := r0.defers })) hF cap.toArray #[.func (.yield w.heap.size) #[] #[]]
    refine ⟨_, _, _, { target := .fn (.func F) cap.toArray, args := #[.func (.yield w.heap.size) #[] #[]] }, _, F, _, _, run_enterLoop_inner h0 fn a.tmps #[t] as_ bd, ?_, fun f' _ => trivial, hinv, fun h => by simp [Fr, Fence.wide] at h, ?_⟩
    · have hk : ∀ v, ev f (.const v) = v := fun _ => rfl
      rw [ha.eval]
      simp [rangeCall, resolve, hg, Deferred.ofValue, hk]
    · have hh : (#[Value.func (.yield w.heap.size) #[] #[]] ++ cap.toArray) = (Value.func (.yield w.heap.size) #[] #[] :: cap).toArray := by apply Array.ext'; simp
      rw [hh]
      exact fr_calls (hc.mono fun e w' hR => rangePost_of (ro := some l0) (ds := ds) (a' := { tmps := a.tmps, defers := [] ++ a.defers }) ⟨ha.size, ha.get, by simp [ha.defers]⟩ hR)⟩
end

section marks
variable {P : Program} {n : Nat} {w : World} {fn : Func} {R : Ending → World → Prop} {f : Slots}

def finM (P : Program) (n : Nat) (fn : Func) (R : Ending → World → Prop) : Post := fun e f ds w => ∀ a, Rep n f ds a → bodyPostM Fence.wide 0 P fn R e a w
theorem callsM {F : FuncId} {c : Code} {vs : List Value} (hf : P.funcs[F]? = some fn) (hb : fn.body = some c) (hn : fn.ntmps = n) (hv : Nat.ble vs.length n = true)
    (h : CW P c (finM P n fn R) n (ini vs) [] w) : Calls P F vs.toArray w R :=
  (callsIn_wide (n := 0)).1 (callsIn_of_wp_marks hf hb trivial (wpIn_wide.2 (Code.wp_mono (fun e a w ⟨f, ds, hr, hq⟩ => hq a hr) (h.out _ (by rw [hn]; exact rep_ini (by simpa using hv))))))

/-- The blocks of the marks, open and shut. -/
def marksO (bs : List Nat) : List (Nat × Obj) := bs.map fun b => (b, .deferred (some []))
def marksS (bs : List Nat) : List (Nat × Obj) := bs.map fun b => (b, .deferred none)
theorem leavesM_of {tmps : Array Value} {S : List Nat} {w0 : World} : ∀ (bs : List Nat) (L : List (Nat × Obj)) (w : World), Step S (marksO bs ++ L) w0 w →
    (∀ w', Step S (marksS bs ++ L) w0 w' → ∃ v, (results fn tmps).run P w' = .ok v w' ∧ R (.returned v) w') → LeavesInM Fence.wide 0 P fn tmps R (bs.map markOf) .returning w
  | [], L, w, hs, h => h w hs
  | b :: bs, L, w, hs, h => by
    refine ⟨by simp, .inl ⟨b, _, rfl, run_takeDeferred hs.hd, ?_⟩⟩
    have hs' : Step S ((b, .deferred none) :: (marksO bs ++ L)) w0 (putO w b (.deferred none)) := Step.setObj (L := marksO bs ++ L) hs _
    refine leavesM_of bs ((b, .deferred none) :: L) _ (hs'.perm List.perm_middle.symm) fun w' hw' => ?_
    exact h w' (hw'.perm List.perm_middle)
theorem finM_ret {e : Exit} (he : e = .ret ∨ e = .normal) {bs : List Nat} {S : List Nat} {L : List (Nat × Obj)} {w0 : World} (hs : Step S (marksO bs ++ L) w0 w)
    (h : ∀ a, Rep n f (bs.map markOf) a → ∀ w', Step S (marksS bs ++ L) w0 w' → ∃ v, (results fn a.tmps).run P w' = .ok v w' ∧ R (.returned v) w') : finM P n fn R e f (bs.map markOf) w := fun a ha => by
  have := leavesM_of (fn := fn) (R := R) (tmps := a.tmps) bs L w hs (h a ha)
  rcases he with rfl | rfl
  · show LeavesInM Fence.wide 0 P fn a.tmps R a.defers .returning w
    rw [ha.defers]
    exact this
  · show LeavesInM Fence.wide 0 P fn a.tmps R a.defers .returning w
    rw [ha.defers]
    exact this
theorem res_tmp1 {t : Tmp} {a : Act} {ds : List Deferred} (ha : Rep n f ds a) (hr : fn.results = #[.tmp t]) : (results fn a.tmps).run P w = .ok (f t) w := by
  rw [results_tmp hr, ha.get]
theorem res_tmp2 {t u : Tmp} {a : Act} {ds : List Deferred} (ha : Rep n f ds a) (hr : fn.results = #[.tmp t, .tmp u]) : (results fn a.tmps).run P w = .ok (.tuple #[f t, f u]) w := by
  rw [results_tmp2 hr, ha.get, ha.get]
end marks

section more
variable {P : Program} {ro : Option Nat} {Q : Post} {n l : Nat} {f : Slots} {ds : List Deferred} {w w0 : World} {S : List Nat} {L : List (Nat × Obj)} {r : Loop}
theorem behind_none (hs : Step S ((l, .loop r) :: L) w0 w) (hst : r.state = .ready) (hp : r.pending = none) (h : ∀ w', Step S ((l, .loop (Loop.at r .exhausted none)) :: L) w0 w' → Q .normal f ds w') : Behind P ro l Q n f ds w := by
  refine ⟨S, L, w0, r, hs, by rw [hst]; simp, fun w' hs' => ?_⟩
  rw [hp] at hs' ⊢
  exact h w' hs'
theorem behind_some {c : Code} (hs : Step S ((l, .loop r) :: L) w0 w) (hst : r.state = .done) (hp : r.pending = some c) (h : ∀ w', Step S ((l, .loop (Loop.at r .exhausted (some c))) :: L) w0 w' → CWI P ro c Q n f ds w') : Behind P ro l Q n f ds w := by
  refine ⟨S, L, w0, r, hs, by rw [hst]; simp, fun w' hs' => ?_⟩
  rw [hp] at hs' ⊢
  exact h w' hs'
theorem Loop.at_back {s : LoopState} {p : Option Code} (hs : r.state = .ready) (hp : r.pending = none) : Loop.at (Loop.at r s p) .ready none = r := by
  cases r
  simp only at hs hp
  subst hs hp
  rfl
theorem Step.callAll {L1 L' : List (Nat × Obj)} {w' : World} (h : Step S L1 w0 w) (hc : Step (L1.map (·.1)) L' w w') : Step S L' w0 w' := by
  have := Step.call (L1 := L1) (L := []) (by rw [List.append_nil]; exact h) hc
  rwa [List.append_nil] at this
theorem perm4 {α : Type} (a b c d : α) (X : List α) : (X ++ [a, b, c, d]).Perm (d :: b :: c :: a :: X) :=
  List.perm_append_comm.trans ((List.perm_middle (l₁ := [a, b, c])).trans (List.Perm.cons d (List.perm_middle (l₁ := [b, c])).symm))
end more

section more2
variable {P : Program} {Q : Post} {n : Nat} {f : Slots} {ds : List Deferred} {w w0 : World} {S : List Nat} {L : List (Nat × Obj)}
/-- A loop whose rounds may lay marks. -/
theorem CW.loopD {c : Code} (I : Nat → Slots → List Deferred → World → Prop) {m : Nat} (h0 : I m f ds w)
    (hr : ∀ m f ds w, I m f ds w → CW P c (thenC (fun f' ds' w' => ∃ m', m' < m ∧ I m' f' ds' w') Q) n f ds w) : CW P (.loop c) Q n f ds w :=
  ⟨fun a ha => wp_loop_ex (fun m a w => ∃ f ds, Rep n f ds a ∧ I m f ds w) ⟨f, ds, ha, h0⟩ fun m a w ⟨f, ds, ha, hI⟩ =>
    Code.wp_mono (fun e a' w' ⟨f', ds', hr', hq⟩ => by
      cases e with
      | normal =>
        obtain ⟨m', hlt, hI'⟩ := hq
        exact ⟨m', hlt, f', ds', hr', hI'⟩
      | exit id => exact ⟨f', ds', hr', hq⟩
      | goto id => exact ⟨f', ds', hr', hq⟩
      | ret => exact ⟨f', ds', hr', hq⟩
      | panic ch => exact ⟨f', ds', hr', hq⟩
      | outgrown => exact ⟨f', ds', hr', hq⟩) ((hr m f ds w hI).out a ha)⟩
theorem Step.inCell {b o : Nat} {T : TypeId} {cs : List Value} {v : Value} (hs : Step S L w0 w) (hm : (b, blk T cs) ∈ L) (ho : cs[o]? = some v) : w.cell? ⟨b, o, none⟩ = some v := by rw [cell_blk (hs.has _ hm), ho]
theorem marksO_cons (b : Nat) (bs : List Nat) : marksO (b :: bs) = (b, .deferred (some [])) :: marksO bs := rfl
end more2
end Go.Gx
/-! AnyI -/
namespace Go.Gx
set_option linter.unusedVariables false
set_option linter.unusedSimpArgs false

section any
variable {P : Program} {ops : Array Oper} {Q : Exit → Act → World → Prop} {md : Region.Mode} {C : World → Prop}

def wpAnyJ (P : Program) (md : Region.Mode) (ops : Array Oper) (Q : Exit → Act → World → Prop) (s : Nat) (C : World → Prop) : Nat → Array Bool → Act → World → Prop
  | 0, listed, a, w => (listed.getD s false = false → C w) ∧ Region.ready md ops listed = [] ∧ Q .normal a w
  | fuel + 1, listed, a, w => (listed.getD s false = false → C w) ∧ (Region.ready md ops listed = [] → Q .normal a w) ∧
    ∀ i ∈ Region.ready md ops listed, wpOpIn (Fr none) 0 P ops Q i (wpAnyJ P md ops Q s C fuel (listed.setIfInBounds i true)) a w

theorem wpAnyJ.relax {s s' : Nat} {C' : World → Prop} : ∀ {fuel : Nat} {listed : Array Bool} {a : Act} {w : World}, listed.getD s false = true → wpAnyJ P md ops Q s' C' fuel listed a w → wpAnyJ P md ops Q s C fuel listed a w
  | 0, _, _, _, hu, h => ⟨fun h0 => (by rw [hu] at h0; cases h0), h.2.1, h.2.2⟩
  | _ + 1, _, _, _, hu, h => ⟨fun h0 => (by rw [hu] at h0; cases h0), h.2.1, fun i hi => wpOpIn_mono (fun _ _ h' => wpAnyJ.relax (getD_set_true hu) h') (h.2.2 i hi)⟩

theorem wpAnyJ.any {s : Nat} : ∀ {fuel : Nat} {listed : Array Bool} {a : Act} {w : World}, wpAnyJ P md ops Q s C fuel listed a w → wpAnyIn (Fr none) 0 P md ops Q fuel listed a w
  | 0, _, _, _, h => h.2
  | _ + 1, _, _, _, h => ⟨h.2.1, fun i hi => wpOpIn_mono (fun _ _ h' => wpAnyJ.any h') (h.2.2 i hi)⟩

theorem YieldsC.wpOpIn {i : Nat} {o : Oper} {v : Value} {a : Act} (hi : ops[i]? = some o) (hy : YieldsC P ops C o v a)
    {K : Act → World → Prop} {w : World} (hC : C w) (h : K (a.put o.dst v) w) : wpOpIn (Fr none) 0 P ops Q i K a w := by
  unfold Go.wpOpIn
  simp only [hi]
  rcases hy with ⟨hw, hv⟩ | ⟨hw, rfl⟩
  · simp only [hw, if_true]
    refine ⟨fun f _ => trivial, ?_⟩
    show o.uponIn (Fr none) 0 P a K Q ((execOp a.eval o).run P w)
    rw [hv w hC]
    exact h
  · simp only [hw, Bool.false_eq_true, if_false]; exact ⟨fun f _ => trivial, h⟩

theorem wpOpIn_putC {j : Nat} {oi oj : Oper} {v : Value} (hj : ops[j]? = some oj) (hap : oi.apart ops oj = true)
    (hsi : ∀ cs b, oi.op ≠ .select cs b) (hsj : ∀ cs b, oj.op ≠ .select cs b)
    (hQ : ∀ c a w, Q (.panic c) (a.put oi.dst v) w → Q (.panic c) a w) {K : Act → World → Prop} {a : Act} {w : World}
    (hy : YieldsC P ops C oi v a) (h : wpOpIn (Fr none) 0 P ops Q j K (a.put oi.dst v) w) :
    wpOpIn (Fr none) 0 P ops Q j (fun a' w' => YieldsC P ops C oi v a' ∧ K (a'.put oi.dst v) w') a w := by
  have hobt := Oper.apart_spec hap
  obtain ⟨h1, h2, h3⟩ := hobt
  have keep : ∀ (a : Act), YieldsC P ops C oi v a → ∀ u, YieldsC P ops C oi v (a.put oj.dst u) := fun a hy u =>
    hy.of_same (execOp_put oi hsi a oj.dst u h3) (wanted_put oi a oj.dst u h3)
  have keepD : ∀ d, YieldsC P ops C oi v { a with defers := d :: a.defers } := fun d => hy.of_same rfl rfl
  unfold wpOpIn at *
  simp only [hj] at *
  rw [wanted_put oj a oi.dst v h1] at h
  split
  · rename_i hw
    simp only [hw, if_true] at h
    unfold Oper.wpIn at *
    refine ⟨fun f _ => trivial, ?_⟩
    have h := h.2
    have e0 : ∀ ρ, oj.semAt (Fr none).round ρ = execOp ρ oj := fun _ => rfl
    rw [e0, execOp_put oj hsj a oi.dst v h1] at h
    rw [e0]
    generalize (execOp a.eval oj).run P w = r at *
    cases r with
    | ok x w' =>
      cases x <;> simp only [Oper.uponIn] at h ⊢
      case value u => exact ⟨keep a hy u, by rw [← Act.put_comm a v u h2]; exact h⟩
      case skip => exact ⟨keep a hy _, by rw [← Act.put_comm a v undef h2]; exact h⟩
      case defer d =>
        refine ⟨keep _ (keepD d) _, ?_⟩
        rw [← Act.put_comm _ v undef h2, ← Act.put_defers]
        exact h
      case enter f args =>
        refine ⟨h.1, CallsIn.mono h.2 fun e w'' he => ?_⟩
        cases e with
        | returned u => exact ⟨keep a hy u, by rw [← Act.put_comm a v u h2]; exact he⟩
        | panicked c => exact hQ _ _ _ he
        | outgrown => exact he
      case row row args => exact ⟨h.1, RowsIn.mono h.2 fun u w'' he => ⟨keep a hy u, by rw [← Act.put_comm a v u h2]; exact he⟩⟩
      case round l f tmps assign body =>
        refine ⟨h.1, RoundIn.mono h.2 fun e w'' he => ?_⟩
        cases e with
        | returned u => exact ⟨keep a hy u, by rw [← Act.put_comm a v u h2]; exact he⟩
        | panicked c => exact hQ _ _ _ he
        | outgrown => exact he
    | halt x w' =>
      cases x <;> simp only [Oper.uponIn] at h ⊢
      case panic u => exact hQ _ _ _ h
  · rename_i hw
    simp only [hw] at h
    exact ⟨fun f _ => trivial, keep a hy _, by rw [← Act.put_comm a v undef h2]; exact h.2⟩

/-- One behind the other. -/
def chainOf (md : Region.Mode) (ops : Array Oper) : Nat → List Nat → Bool
  | _, [] => true
  | i, j :: path => (match ops[j]? with | some oj => oj.after.any fun e => Region.binds md e && e.on == i | none => true) && chainOf md ops j path
theorem chain_wait {md : Region.Mode} : ∀ (i : Nat) (path : List Nat) {listed : Array Bool}, chainOf md ops i path = true → i < listed.size → listed.getD i false = false → (∀ p ∈ path, listed.getD p false = false) → (∀ p ∈ path, p < listed.size) → ∀ p ∈ path, p ∉ Region.ready md ops listed
  | _, [], _, _, _, _, _, _, p, hp => by cases hp
  | i, j :: path, listed, hc, hil, hi, hu, hsz, p, hp => by
    simp only [chainOf, Bool.and_eq_true] at hc
    rcases List.mem_cons.1 hp with rfl | hp
    · intro hr
      have hobt := mem_ready.1 hr
      obtain ⟨_, oj, hoj, hall⟩ := hobt
      have h1 := hc.1
      rw [hoj] at h1
      have hobt := Array.any_eq_true'.1 h1
      obtain ⟨e, he, hb⟩ := hobt
      simp only [Bool.and_eq_true, beq_iff_eq] at hb
      have h2 := hall e he hb.1
      rw [hb.2] at h2
      simp [hil] at hi h2
      rw [hi] at h2
      cases h2
    · exact chain_wait j path hc.2 (hsz j (by simp)) (hu j (by simp)) (fun q hq => hu q (by simp [hq])) (fun q hq => hsz q (by simp [hq])) p hp

theorem wpAnyJ_first {s i : Nat} {oi : Oper} {v : Value} (path : List Nat) (hi : ops[i]? = some oi) (hsel : ∀ (j : Nat) (o : Oper) cs b, ops[j]? = some o → o.op ≠ .select cs b)
    (hs : s ∈ path) (hch : chainOf md ops i path = true) (hnp : i ∉ path)
    (hQ : ∀ c a w, Q (.panic c) (a.put oi.dst v) w → Q (.panic c) a w) :
    ∀ (fuel : Nat) (listed : Array Bool) (a : Act) (w : World), i < listed.size → (∀ p ∈ path, p < listed.size) → (∀ p ∈ path, listed.getD p false = false) →
      (∀ j oj, ops[j]? = some oj → j ≠ i → listed.getD j true = false → (∀ e ∈ oj.after, Region.binds md e = true → e.on ≠ i) → oi.apart ops oj = true) →
      i ∈ Region.ready md ops listed → YieldsC P ops C oi v a →
      wpAnyJ P md ops Q s C fuel (listed.setIfInBounds i true) (a.put oi.dst v) w → wpAnyJ P md ops Q s C (fuel + 1) listed a w := by
  have hsi : i ≠ s := fun e => by subst e; exact hnp hs
  have hC0 : ∀ (fuel : Nat) (listed : Array Bool) (a : Act) (w : World), (∀ p ∈ path, listed.getD p false = false) → wpAnyJ P md ops Q s C fuel (listed.setIfInBounds i true) a w → C w := by
    intro fuel listed a w hu H
    have hs0 : (listed.setIfInBounds i true).getD s false = false := by rw [getD_set_ne false hsi]; exact hu s hs
    cases fuel with
    | zero => exact H.1 hs0
    | succ n => exact H.1 hs0
  intro fuel
  induction fuel with
  | zero =>
    intro listed a w hil hps hu _ hr hy H
    have hC := hC0 0 listed _ w hu H
    refine ⟨fun _ => hC, fun h => (by rw [h] at hr; cases hr), fun j hj => ?_⟩
    by_cases hji : j = i
    · subst hji; exact hy.wpOpIn hi hC H
    · have := ready_mono hj hji
      rw [H.2.1] at this
      cases this
  | succ fuel ih =>
    intro listed a w hil hps hu hfree hr hy H
    have hC := hC0 _ listed _ w hu H
    refine ⟨fun _ => hC, fun h => (by rw [h] at hr; cases hr), fun j hj => ?_⟩
    by_cases hji : j = i
    · subst hji; exact hy.wpOpIn hi hC H
    · have h1 := H.2.2 j (ready_mono hj hji)
      have hobt := mem_ready.1 hj
      obtain ⟨hjun, oj, hoj, hall⟩ := hobt
      have hiun : listed.getD i false = false := by
        have h0 := (mem_ready.1 hr).1
        simp [hil] at h0 ⊢
        exact h0
      have hnot : ∀ e ∈ oj.after, Region.binds md e = true → e.on ≠ i := fun e he hb heq => by
        have h1 := hall e he hb
        rw [heq] at h1
        simp [hil] at hiun h1
        rw [hiun] at h1
        cases h1
      have h2 := wpOpIn_putC hoj (hfree j oj hoj hji hjun hnot) (fun cs b => hsel i oi cs b hi) (fun cs b => hsel j oj cs b hoj) hQ hy h1
      have hfree' : ∀ k ok, ops[k]? = some ok → k ≠ i → (listed.setIfInBounds j true).getD k true = false →
          (∀ e ∈ ok.after, Region.binds md e = true → e.on ≠ i) → oi.apart ops ok = true := fun k ok hk hki hun hno => by
        refine hfree k ok hk hki ?_ hno
        by_cases hjk : j = k
        · subst hjk; exact hjun
        · rw [getD_set_ne true hjk] at hun; exact hun
      have hjp : j ∉ path := fun hjp => chain_wait i path hch hil hiun hu hps j hjp hj
      refine wpOpIn_mono (fun a' w' h3 => ih (listed.setIfInBounds j true) a' w' (by simpa using hil) (fun p hp => by simpa using hps p hp) (fun p hp => by
        have hne : j ≠ p := fun e => by subst e; exact hjp hp
        rw [getD_set_ne false hne]; exact hu p hp) hfree' (ready_mono hr (Ne.symm hji)) h3.1 ?_) h2
      rw [Array.setIfInBounds_comm _ _ hji]
      exact h3.2
end any

section al
variable {P : Program} {ops : Array Oper} {n : Nat} {f : Slots} {ds : List Deferred} {w : World} {C : World → Prop} {s : Nat} {Qn : Slots → World → Prop} {Qp : List PanicEntry → World → Prop}

structure ALI (P : Program) (ops : Array Oper) (s : Nat) (C : World → Prop) (Qn : Slots → World → Prop) (Qp : List PanicEntry → World → Prop) (n : Nat) (ds : List Deferred) (fuel : Nat) (done : List Nat) (f : Slots) (w : World) : Prop where
  out : ∀ a, Rep n f ds a → wpAnyJ P .any ops (anyPost n ds Qn Qp) s C fuel (lst ops.size done) a w

def quietJ (ops : Array Oper) (s : Nat) (path done : List Nat) (i : Nat) : Bool :=
  path.contains s && chainOf .any ops i path && !path.contains i && decide (i < (lst ops.size done).size) && path.all (fun p => decide (p < (lst ops.size done).size) && !(lst ops.size done).getD p false) &&
    Region.noSelect ops && Region.free .any ops (lst ops.size done) i && (Region.ready .any ops (lst ops.size done)).contains i

section
variable {o : Op} {ty : TypeId} {pos : String} {af : Array Edge} {fuel : Nat} {done : List Nat}
theorem ALI.val (i : Nat) (path : List Nat) {d : Nat} {v : Value} (hi : ops[i]? = some ⟨some d, o, ty, pos, af, none⟩) (hq : quietJ ops s path done i = true) (hd : Nat.blt d n = true)
    (hrun : ∀ w, C w → (execOp (ev f) ⟨some d, o, ty, pos, af, none⟩).run P w = .ok (.value v) w)
    (h : ALI P ops s C Qn Qp n ds fuel (i :: done) (upd f d v) w) : ALI P ops s C Qn Qp n ds (fuel + 1) done f w := by
  simp only [quietJ, Bool.and_eq_true, Bool.not_eq_true', decide_eq_true_eq, List.all_eq_true] at hq
  obtain ⟨⟨⟨⟨⟨⟨⟨q1, q2⟩, q3⟩, q4⟩, q5⟩, q6⟩, q7⟩, q8⟩ := hq
  exact ⟨fun a ha => wpAnyJ_first path hi (Region.noSelect_spec q6) (by simpa using q1) q2 (by simpa using q3) AL.panicKept fuel _ a w q4 (fun p hp => (q5 p hp).1) (fun p hp => (q5 p hp).2) (Region.free_spec hi q7) (by simpa using q8)
    (.inl ⟨by simp [Region.wanted], fun w hw => by rw [ha.eval]; exact hrun w hw⟩) (h.out _ (ha.put hd v))⟩

def aliPost (P : Program) (ops : Array Oper) (s : Nat) (C : World → Prop) (Qn : Slots → World → Prop) (Qp : List PanicEntry → World → Prop) (n : Nat) (ds : List Deferred) (fuel : Nat) (done : List Nat) : Post
  | .normal, f, ds', w => ds' = ds ∧ ALI P ops s C Qn Qp n ds fuel done f w
  | .panic c, f, ds', w => ds' = ds ∧ Qp c w
  | _, _, _, _ => False

theorem wpOpIn_of_WLI {i : Nat} {o : Oper} (hi : ops[i]? = some o) (h : WLI P none ops (aliPost P ops s C Qn Qp n ds fuel (i :: done)) n [o] f ds w) {a : Act} (ha : Rep n f ds a) :
    wpOpIn (Fr none) 0 P ops (anyPost n ds Qn Qp) i (wpAnyJ P .any ops (anyPost n ds Qn Qp) s C fuel ((lst ops.size done).setIfInBounds i true)) a w := by
  have h1 := h.out a ha
  have e : (lst ops.size done).setIfInBounds i true = lst ops.size (i :: done) := rfl
  rw [e]
  have hn : ∀ a' w', lift n (aliPost P ops s C Qn Qp n ds fuel (i :: done)) .normal a' w' → wpAnyJ P .any ops (anyPost n ds Qn Qp) s C fuel (lst ops.size (i :: done)) a' w' := by
    rintro a' w' ⟨f', ds', hr, rfl, hA⟩
    exact hA.out a' hr
  have hp : ∀ c a' w', lift n (aliPost P ops s C Qn Qp n ds fuel (i :: done)) (.panic c) a' w' → anyPost n ds Qn Qp (.panic c) a' w' := by
    rintro c a' w' ⟨f', ds', hr, rfl, hA⟩
    exact ⟨hr.size, hr.defers, hA⟩
  have ho : ∀ a' w', ¬ lift n (aliPost P ops s C Qn Qp n ds fuel (i :: done)) .outgrown a' w' := by
    rintro a' w' ⟨f', ds', hr, hA⟩
    exact hA
  unfold wpOpIn
  simp only [hi]
  simp only [wpListIn] at h1
  split
  · rename_i hw
    rw [if_pos hw] at h1
    unfold Oper.wpIn at h1 ⊢
    refine ⟨h1.1, ?_⟩
    have h1 := h1.2
    generalize (o.semAt (Fr none).round a.eval).run P w = r at h1 ⊢
    cases r with
    | ok x w' =>
      cases x <;> simp only [Oper.uponIn] at h1 ⊢
      case value => exact hn _ _ h1
      case skip => exact hn _ _ h1
      case defer => exact hn _ _ h1
      case enter =>
        refine ⟨h1.1, CallsIn.mono h1.2 fun e w' hR => ?_⟩
        cases e with
        | returned v => exact hn _ _ hR
        | panicked ch => exact hp _ _ _ hR
        | outgrown => obtain ⟨a1, w1, h2⟩ := hR; exact absurd h2 (ho _ _)
      case row => exact ⟨h1.1, RowsIn.mono h1.2 fun v w' hR => hn _ _ hR⟩
      case round =>
        refine ⟨h1.1, RoundIn.mono h1.2 fun e w' hR => ?_⟩
        cases e with
        | returned v => exact hn _ _ hR
        | panicked ch => exact hp _ _ _ hR
        | outgrown => obtain ⟨a1, w1, h2⟩ := hR; exact absurd h2 (ho _ _)
    | halt x w' =>
      cases x <;> simp only [Oper.uponIn] at h1 ⊢
      exact hp _ _ _ h1
  · rename_i hw
    rw [if_neg hw] at h1
    exact ⟨h1.1, hn _ _ h1.2⟩

theorem ALI.one (i : Nat) {o : Oper} (hr : (Region.ready .any ops (lst ops.size done)) = [i]) (hi : ops[i]? = some o) (hC : C w)
    (h : WLI P none ops (aliPost P ops s C Qn Qp n ds fuel (i :: done)) n [o] f ds w) : ALI P ops s C Qn Qp n ds (fuel + 1) done f w :=
  ⟨fun a ha => ⟨fun _ => hC, fun h0 => (by rw [hr] at h0; cases h0), fun k hk => by
    rw [hr] at hk
    simp at hk
    subst hk
    exact wpOpIn_of_WLI hi h ha⟩⟩
theorem ALI.end (hr : (Region.ready .any ops (lst ops.size done)).isEmpty = true) (hC : C w) (h : Qn f w) : ALI P ops s C Qn Qp n ds 0 done f w :=
  ⟨fun a ha => ⟨fun _ => hC, by simpa using hr, f, ha, h⟩⟩
theorem ALI.relax (hu : (lst ops.size done).getD s false = true) (h : ALI P ops 0 (fun _ => True) Qn Qp n ds fuel done f w) : ALI P ops s C Qn Qp n ds fuel done f w :=
  ⟨fun a ha => (h.out a ha).relax hu⟩
theorem WLI.of {Q : Post} {ops : Array Oper} {l : List Oper} {ro : Option Nat} (hp : l.all plainOp = true) (hQ : NoOut Q) (h : WL P ops Q n l f ds w) : WLI P ro ops Q n l f ds w :=
  ⟨fun a ha => wpListIn_of (fun a w ⟨f', ds', _, h⟩ => hQ _ _ _ h) l a w hp (h.out a ha)⟩
theorem aliPost_noOut {done : List Nat} : NoOut (aliPost P ops s C Qn Qp n ds fuel done) := fun _ _ _ h => h
end
theorem CW.anyY {Q : Post} {id : Nat} {l : List Oper} (s k : Nat) (hm : P.follows .mixedOrders = true) (hk : l.length = k)
    (h : ALI P l.toArray s C (fun f w => Q .normal f ds w) (fun c w => ∀ f, Q (.panic c) f ds w) n ds k [] f w.drew) : CW P (.region id l.toArray true) Q n f ds w :=
  ⟨fun a ha => by
    have hw : (Code.region id l.toArray true).wpIn (Fr none) 0 P (anyPost n ds (fun f w => Q .normal f ds w) (fun c w => ∀ f, Q (.panic c) f ds w)) a w := by
      refine wpIn_region_any hm ?_
      have h1 := (h.out a ha).any
      have e : l.toArray.size = k := by simp [hk]
      rw [e] at h1 ⊢
      exact h1
    refine Code.wp_mono ?_ (wpIn_wide.1 hw)
    intro e a' w' hq
    cases e with
    | normal => obtain ⟨f', hr, hq⟩ := hq; exact ⟨f', ds, hr, hq⟩
    | panic c => obtain ⟨h1, h2, hq⟩ := hq; exact ⟨fun t => a'.tmps.getD t undef, ds, ⟨h1, fun t => rfl, h2⟩, hq _⟩
    | exit id => exact hq.elim
    | goto id => exact hq.elim
    | ret => exact hq.elim
    | outgrown => exact hq.elim⟩
end al
end Go.Gx
/-! Range2 -/
namespace Go.Gx
set_option linter.unusedVariables false
set_option linter.unusedSimpArgs false
section
variable {P : Program} {ro : Option Nat} {Q : Post} {n : Nat} {f : Slots} {ds : List Deferred} {w : World}
def RecOf2 (t t' : Tmp) (assign body : Code) (f : Slots) (n : Nat) (r : Loop) : Prop := r.params = #[t, t'] ∧ r.assign = assign ∧ r.body = body ∧ r.tmps.size = n ∧ ∀ k, r.tmps.getD k undef = f k
theorem RecOf2.at {t t' : Tmp} {as_ bd : Code} {r : Loop} (h : RecOf2 t t' as_ bd f n r) (s : LoopState) (p : Option Code) : RecOf2 t t' as_ bd f n (Loop.at r s p) := h
/-- One round of an outermost or inner loop, out of its code's walk. -/
theorem yields_of2 {l : Nat} {v v' : Value} {t t' : Tmp} {as_ bd : Code} {r : Loop} {S : List Nat} {L : List (Nat × Obj)} {w0 : World} {R : Bool → World → Prop} (hr : RecOf2 t t' as_ bd f n r) (hst : r.state = .ready) (ht : Nat.blt t n = true) (ht' : Nat.blt t' n = true) (hs : Step S ((l, .loop r) :: L) w0 w)
    (h : CWI P (some l) as_ (thenC (fun f1 ds1 w1 => ∃ S1 L1 w10 r1, Step S1 ((l, .loop r1) :: L1) w10 w1 ∧ r1.state = .ready ∧ ∀ w2, Step S1 ((l, .loop (Loop.at r1 .busy r1.pending)) :: L1) w10 w2 → CWI P (some l) bd (RQ l R) n f1 ds1 w2) (fun _ _ _ _ => False)) n (upd (upd f t v) t' v') [] w) :
    Yields P l #[v, v'] w R := by
  obtain ⟨h1, h2, h3, h4, h5⟩ := hr
  have hy := run_yield (P := P) (args := #[v, v']) hs.hd (by rw [h1]; rfl)
  refine ⟨_, _, _, _, hy, ?_⟩
  rw [h1, h2, h3]
  have hfold : (#[t, t'].zip #[v, v']).foldl (fun (tmps : Array Value) (x : Tmp × Value) => match x with | (t, a) => tmps.setIfInBounds t a) r.tmps = (r.tmps.setIfInBounds t v).setIfInBounds t' v' := by
    rw [← Array.foldl_toList, Array.toList_zip]
    rfl
  rw [hfold]
  have hrep0 : Rep n f [] { tmps := r.tmps, defers := [] } := ⟨h4, h5, rfl⟩
  have hrep := (hrep0.put ht v).put ht' v'
  have hw := h.out _ hrep
  refine roundIn_of_wpIn (F := Fence.wide) trivial (wpIn_mono (F := Fence.wide.inRound l) hw fun e a w1 ⟨f1, ds1, hr1, hq⟩ => ?_)
  cases e with
  | normal =>
    obtain ⟨S1, L1, w10, r1, hs1, hr1s, hb⟩ := hq
    refine ⟨_, run_beginRound hs1.hd hr1s, ?_⟩
    have hbw := hb _ (hs1.setObj (.loop (Loop.at r1 .busy r1.pending)))
    refine wpIn_mono (F := Fence.wide.inRound l) (hbw.out a hr1) fun e a2 w2 ⟨f2, ds2, hr2, hq2⟩ => ?_
    cases e with
    | normal =>
      obtain ⟨S2, L2, w20, r2, hs2, hR⟩ := hq2
      have hobt := rq_end (P := P) (R := R) hs2 none
      obtain ⟨w', he, hs'⟩ := hobt
      exact ⟨_, w', he, true, rfl, hR w' hs'⟩
    | ret =>
      obtain ⟨S2, L2, w20, r2, hs2, hR⟩ := hq2
      have hobt := rq_end (P := P) (R := R) hs2 (some .ret)
      obtain ⟨w', he, hs'⟩ := hobt
      exact ⟨_, w', he, false, rfl, hR w' hs'⟩
    | exit id =>
      obtain ⟨S2, L2, w20, r2, hs2, hR⟩ := hq2
      have hobt := rq_end (P := P) (R := R) hs2 (some (.exit id))
      obtain ⟨w', he, hs'⟩ := hobt
      exact ⟨_, w', he, false, rfl, hR w' hs'⟩
    | goto id => exact hq2.elim
    | panic ch => exact hq2.elim
    | outgrown => exact hq2.elim
  | exit id => exact hq.elim
  | goto id => exact hq.elim
  | ret => exact hq.elim
  | panic ch => exact hq.elim
  | outgrown => exact hq.elim

/-- 'for x := range g { .. }' in a function's own frame. -/
theorem CW.rangeFunc2 {g : Operand} {t t' : Tmp} {as_ bd : Code} {F : FuncId} {cap : List Value} {S : List Nat} {L : List (Nat × Obj)} {w0 : World} (hF : En P F) (hg : ev f g = .func (.func F) #[] cap.toArray) (hs : Step S L w0 w)
    (h : ∀ l b0 r w2, RecOf2 t t' as_ bd f n r → r.state = .ready → r.pending = none → Step S ((l, .loop r) :: (b0, .deferred (some [])) :: L) w0 w2 →
      Calls P F (.func (.yield l) #[] #[] :: cap).toArray w2 fun e w' => (∃ v, e = .returned v) ∧ Behind P none l Q n f (markOf b0 :: ds) w') : CW P (.rangeFunc g #[t, t'] as_ bd) Q n f ds w :=
  ⟨fun a ha => wpIn_wide.1 (wpIn_rangeFunc (F := Fence.wide) (n := 0) fun fn _ => by
    have hs1 := hs.alloc (.deferred (some []))
    have hs2 := hs1.alloc (.loop { state := .ready, pending := none, fn := fn, tmps := a.tmps, params := #[t, t'], assign := as_, body := bd, defers := w.heap.size })
    have hsz : (w.alloc (.deferred (some []))).heap.size = w.heap.size + 1 := by simp
    rw [hsz] at hs2
    have hc := h (w.heap.size + 1) w.heap.size _ _ ⟨rfl, rfl, rfl, ha.size, ha.get⟩ rfl rfl hs2
    have hinv := invoke_fn (P := P) (w := (w.alloc (.deferred (some []))).alloc (.loop { state := .ready, pending := none, fn := fn, tmps := a.tmps, params := #[t, t'], assign := as_, body := bd, defers := w.heap.size })) hF cap.toArray #[.func (.yield (w.heap.size + 1)) #[] #[]]
    refine ⟨_, _, _, { target := .fn (.func F) cap.toArray, args := #[.func (.yield (w.heap.size + 1)) #[] #[]] }, _, F, _, _, run_enterLoop_outer fn a.tmps #[t, t'] as_ bd, ?_, fun f' _ => trivial, hinv, fun h => by simp [Fence.wide] at h, ?_⟩
    · have hk : ∀ v, ev f (.const v) = v := fun _ => rfl
      rw [ha.eval]
      simp [rangeCall, resolve, hg, Deferred.ofValue, hk]
    · have hh : (#[Value.func (.yield (w.heap.size + 1)) #[] #[]] ++ cap.toArray) = (Value.func (.yield (w.heap.size + 1)) #[] #[] :: cap).toArray := by apply Array.ext'; simp
      rw [hh]
      exact callsIn_wide.2 (hc.mono fun e w' hR => rangePost_of (ro := none) (ds := markOf w.heap.size :: ds) (a' := { tmps := a.tmps, defers := [{ target := .collected w.heap.size, args := #[] }] ++ a.defers }) ⟨ha.size, ha.get, by simp [ha.defers, markOf]⟩ hR))⟩

/-- The same within a round of loop l0. -/
theorem CWI.rangeFunc2 {g : Operand} {t t' : Tmp} {as_ bd : Code} {F : FuncId} {cap : List Value} {S : List Nat} {L : List (Nat × Obj)} {w0 : World} {l0 : Nat} {r0 : Loop} (hF : En P F) (hg : ev f g = .func (.func F) #[] cap.toArray) (hs : Step S L w0 w) (h0 : w.heap[l0]? = some (.loop r0))
    (h : ∀ l r w2, RecOf2 t t' as_ bd f n r → r.state = .ready → r.pending = none → Step S ((l, .loop r) :: L) w0 w2 →
      Calls P F (.func (.yield l) #[] #[] :: cap).toArray w2 fun e w' => (∃ v, e = .returned v) ∧ Behind P (some l0) l Q n f ds w') : CWI P (some l0) (.rangeFunc g #[t, t'] as_ bd) Q n f ds w :=
  ⟨fun a ha => wpIn_rangeFunc (F := Fr (some l0)) (n := 0) fun fn _ => by
    have hs2 := hs.alloc (.loop { state := .ready, pending := none, fn := fn, tmps := a.tmps, params := #[t, t'], assign := as_, body := bd, defers := r0.defers })
    have hc := h w.heap.size _ _ ⟨rfl, rfl, rfl, ha.size, ha.get⟩ rfl rfl hs2
    have hinv := invoke_fn (P := P) (w := w.alloc (.loop { state := .ready, pending := none, fn := fn, tmps := a.tmps, params := #[t, t'], assign := as_, body := bd, defers := r0.defers })) hF cap.toArray #[.func (.yield w.heap.size) #[] #[]]
    refine ⟨_, _, _, { target := .fn (.func F) cap.toArray, args := #[.func (.yield w.heap.size) #[] #[]] }, _, F, _, _, run_enterLoop_inner h0 fn a.tmps #[t, t'] as_ bd, ?_, fun f' _ => trivial, hinv, fun h => by simp [Fr, Fence.wide] at h, ?_⟩
    · have hk : ∀ v, ev f (.const v) = v := fun _ => rfl
      rw [ha.eval]
      simp [rangeCall, resolve, hg, Deferred.ofValue, hk]
    · have hh : (#[Value.func (.yield w.heap.size) #[] #[]] ++ cap.toArray) = (Value.func (.yield w.heap.size) #[] #[] :: cap).toArray := by apply Array.ext'; simp
      rw [hh]
      exact fr_calls (hc.mono fun e w' hR => rangePost_of (ro := some l0) (ds := ds) (a' := { tmps := a.tmps, defers := [] ++ a.defers }) ⟨ha.size, ha.get, by simp [ha.defers]⟩ hR)⟩
end
end Go.Gx
/-! Range3 -/
namespace Go.Gx
set_option linter.unusedVariables false
set_option linter.unusedSimpArgs false
section
variable {P : Program} {ops : Array Oper}
theorem wpOpsIn_of {ro : Option Nat} {Q : Exit → Act → World → Prop} (hQ : ∀ a w, ¬ Q .outgrown a w) (hp : ops.toList.all plainOp = true) : ∀ (l : List Nat) (a : Act) (w : World), wpOps P ops Q l a w → wpOpsIn (Fr ro) 0 P ops Q l a w
  | [], a, w, h => h
  | i :: l, a, w, h => by
    have ih := fun a w => wpOpsIn_of (ro := ro) hQ hp l a w
    simp only [wpOps] at h
    simp only [wpOpsIn]
    cases ho : ops[i]? with
    | none => rw [ho] at h; exact ih _ _ h
    | some o =>
      rw [ho] at h
      simp only at h ⊢
      have hpo : plainOp o = true := by
        have hm : o ∈ ops.toList := by
          have hobt := Array.getElem?_eq_some_iff.1 ho
          obtain ⟨hlt, rfl⟩ := hobt
          simp
        exact List.all_eq_true.1 hp o hm
      split
      · rename_i hw
        rw [if_pos hw] at h
        rcases h with h | ⟨_, a0, w0, h0⟩
        · refine ⟨fun f _ => trivial, ?_⟩
          rw [semAt_fr (ro := (Fr ro).round) hpo]
          unfold Oper.wp at h
          generalize (execOp a.eval o).run P w = r at h ⊢
          cases r with
          | ok x w' =>
            cases x <;> simp only [Oper.upon] at h <;> simp only [Oper.uponIn]
            case value => exact ih _ _ h
            case skip => exact ih _ _ h
            case defer => exact ih _ _ h
            case enter =>
              refine ⟨fun h => by simp [Fr, Fence.wide] at h, fr_calls (h.mono fun e w' hR => ?_)⟩
              cases e with
              | returned v => exact ih _ _ hR
              | panicked ch => exact hR
              | outgrown => exact hR
            case row =>
              refine ⟨fun h => by simp [Fr, Fence.wide] at h, ?_⟩
              intro c cs _
              have hobt := h c cs
              obtain ⟨v, w', hv, hs⟩ := hobt
              exact ⟨v, w', ih _ _ hv, stepsIn_wide.2 hs⟩
          | halt x w' =>
            cases x <;> simp only [Oper.upon] at h <;> simp only [Oper.uponIn]
            exact h
        · exact absurd h0 (hQ _ _)
      · rename_i hw
        rw [if_neg hw] at h
        exact ⟨fun f _ => trivial, ih _ _ h⟩
theorem wpIn_region_of {ro : Option Nat} {Q : Exit → Act → World → Prop} {id : Nat} {a : Act} {w : World} (hm : P.follows .mixedOrders = true) (hQ : ∀ a w, ¬ Q .outgrown a w) (hp : ops.toList.all plainOp = true)
    (h : wpAny P .any ops Q ops.size (Array.replicate ops.size false) a { w with drawn := w.drawn + 1 }) : (Code.region id ops true).wpIn (Fr ro) 0 P Q a w :=
  wpIn_region_draw fun t => wpOpsIn_of hQ hp _ _ _ (by
    simp only [Region.schedule, hm, Bool.true_or, if_true]
    exact wpAny_sound ops.size t _ a _ h)
end
section
variable {P : Program} {ro : Option Nat} {n : Nat} {f : Slots} {ds : List Deferred} {w w0 : World} {S : List Nat} {L : List (Nat × Obj)} {A C : World → Prop}
theorem CWI.any {Q : Post} {id : Nat} {l : List Oper} (hp : l.all plainOp = true) (hQ : NoOut Q) (s k : Nat) (hm : P.follows .mixedOrders = true) (hk : l.length = k)
    (h : AL P l.toArray s A C (fun f w => Q .normal f ds w) (fun c w => ∀ f, Q (.panic c) f ds w) n ds k [] f w.drew) : CWI P ro (.region id l.toArray true) Q n f ds w :=
  ⟨fun a ha => by
    refine wpIn_mono (wpIn_region_of (Q := anyPost n ds (fun f w => Q .normal f ds w) (fun c w => ∀ f, Q (.panic c) f ds w)) hm (fun _ _ h => h) (by simpa using hp) ?_) ?_
    · have h1 := (h.out a ha).any
      have e : l.toArray.size = k := by simp [hk]
      rw [e] at h1 ⊢
      exact h1
    · intro e a' w' hq
      cases e with
      | normal => obtain ⟨f', hr, hq⟩ := hq; exact ⟨f', ds, hr, hq⟩
      | panic c => obtain ⟨h1, h2, hq⟩ := hq; exact ⟨fun t => a'.tmps.getD t undef, ds, ⟨h1, fun t => rfl, h2⟩, hq _⟩
      | exit id => exact hq.elim
      | goto id => exact hq.elim
      | ret => exact hq.elim
      | outgrown => exact hq.elim⟩
theorem CWI.quiet {Q : Post} {id : Nat} {l : List Oper} (hp : l.all plainOp = true) (hQ : NoOut Q) (hm : P.follows .mixedOrders = true) (hB : Region.lexB .any l.toArray = true) (hs : Step S L w0 w)
    (h : QL P l.toArray S L w0 (fun f' => ∀ w', Step S L w0 w' → Q .normal f' ds w') n l f ds) : CWI P ro (.region id l.toArray true) Q n f ds w :=
  ⟨fun a ha => by
    have hmono : ∀ (l' : List Oper) (a : Act), wpQuiet P l.toArray (fun w => Step S L w0 w) (fun a' => ∃ f', Rep n f' ds a' ∧ ∀ w', Step S L w0 w' → Q .normal f' ds w') l' a → wpQuiet P l.toArray (fun w => Step S L w0 w) (fun a' => ∀ w', Step S L w0 w' → lift n Q .normal a' w') l' a := by
      intro l'
      induction l' with
      | nil => exact fun a ⟨f', hr, hq⟩ w' hw' => ⟨f', ds, hr, hq w' hw'⟩
      | cons o l' ih =>
        intro a hh
        simp only [wpQuiet] at hh ⊢
        split
        · rename_i hw; rw [if_pos hw] at hh; exact Oper.quiet_mono ih hh
        · rename_i hw; rw [if_neg hw] at hh; exact ih _ hh
    have hh := hmono _ _ (h.out a ha)
    simp only [Region.lexB, Bool.and_eq_true] at hB
    refine wpIn_region_of (Q := lift n Q) hm (fun a w ⟨f', ds', _, h⟩ => hQ _ _ _ h) (by simpa using hp) (wpAny_of_quiet (C := fun w => Step S L w0 w) (Q := fun a' => ∀ w', Step S L w0 w' → lift n Q .normal a' w') (fun _ w' hw' h => h w' hw') _ _ _ _ hs.drew ?_)
    have := wpAnyQ_lex (C := fun w => Step S L w0 w) (md := .any) hB.1 l 0 (Array.replicate l.toArray.size false) a (by simp) (by simpa using hB.2) hh
    simpa using this⟩
end
end Go.Gx
/-! Seq -/
namespace Go.Gx
open Go.Proofs
set_option linter.unusedVariables false
set_option linter.unusedSimpArgs false
set_option maxRecDepth 100000
/-- What a sequence reads in a world: its rows, and the bytes that they lead to. -/
structure SeqOk (W : World) (b3 : Nat) (lv : Value) (R : List Row) (X : List (List UInt8 × List UInt8)) : Prop where
  cell : W.cell? ⟨b3, 0, none⟩ = some lv
  rows : Sl W 33 lv R.length (rowsR R)
  len : X.length = R.length
  small : R.length ≤ 1099511627776
  dat : ∀ (i : Nat) (r : Row) (d x : List UInt8), R[i]? = some r → X[i]? = some (d, x) → r.d = d ∧ x.length < 1099511627776 ∧ Sl W 1 r.v x.length (u8s x)
theorem row_fst (r : Row) : r.enc.take 32 = u8s r.d := by rw [Row.enc, List.take_append_of_le_length (by simp [u8s, r.hd]), List.take_of_length_le (by simp [u8s, r.hd])]
theorem row_snd (r : Row) : r.enc[32]? = some r.v := by
  have h : (u8s r.d).length = 32 := by simp [u8s, r.hd]
  rw [Row.enc, List.getElem?_append_right (by omega), h]
  rfl
theorem At.row {W : World} {b off : Nat} {R : List Row} (h : At W b off (rowsR R)) {i : Nat} {r : Row} (hr : R[i]? = some r) : At W b (off + i * 33) r.enc := by
  have hobt := List.getElem?_eq_some_iff.1 hr
  obtain ⟨hlt, rfl⟩ := hobt
  intro j v hj
  have hj33 : j < 33 := by
    have := (List.getElem?_eq_some_iff.1 hj).1
    rw [Row.enc_len] at this; exact this
  have h1 := rowsR_at R i j hlt hj33
  rw [Nat.add_assoc]
  exact h _ _ (h1.trans hj)
set_option maxHeartbeats 2000000 in
theorem all2_iter {b3 l : Nat} {lv : Value} {R : List Row} {X : List (List UInt8 × List UInt8)} (W0 : World)
    {J : Nat → List (Nat × Obj) → World → Prop} {Jx : World → Prop} (hJ : ∀ k L W W', J k L W → Step [] [] W W' → J k L W')
    (hRd : ∀ k L W, J k L W → SeqOk W b3 lv R X)
    {L0 : List (Nat × Obj)} (h0 : J 0 L0 W0)
    (hY : ∀ k d x L W W1 v' Lv, X[k]? = some (d, x) → J k L W → Step [] Lv W W1 → OwnSl 5 1 v' x.length (u8s x) Lv → Yields Try.prog l #[.agg (u8s d).toArray, v'] W1 fun go W' => if go = true then ∃ L', Step ((Lv ++ L).map (·.1)) L' W1 W' ∧ J (k + 1) L' W' else Jx W') :
    Calls Try.prog 57 #[.func (.yield l) #[] #[], .pointer (some ⟨b3, 0, none⟩)] W0 fun e W' => (∃ v, e = .returned v) ∧ ((∃ L, J X.length L W') ∨ Jx W') := by
  have hs : Step [] [] W0 W0 := Step.refl W0
  have hS0 := hRd _ _ _ h0
  have hlen := hS0.len
  have hsmall := hS0.small
  have hobt := Sl.form hS0.rows
  obtain ⟨av, cv, rfl⟩ := hobt
  refine calls (n := 20) Try.func57 rfl rfl rfl ?_
  repeat (first | refine CW.seq ?_ | refine CW.block ?_ | refine CW.skip ?_ | refine CW.label ?_ | refine CW.exit ?_ | refine CW.condT rfl ?_ | refine CW.condF rfl ?_)
  refine CW.reg ?_
  refine WL.val rfl (run_load1 ty99 rfl (hS0.cell)) ?_
  refine WL.val rfl (run_lenSl Try.underlying99 rfl) ?_
  refine WL.val rfl (run_move) ?_
  refine WL.nil ?_
  have h1 := hJ _ _ _ _ h0 hs
  repeat (first | refine CW.seq ?_ | refine CW.block ?_ | refine CW.skip ?_ | refine CW.label ?_ | refine CW.exit ?_ | refine CW.condT rfl ?_ | refine CW.condF rfl ?_)
  refine CW.loop (fun m f w' => ∃ k L, k ≤ R.length ∧ m = R.length - k ∧ J k L w' ∧ Holds f [(0, .func (.yield l) #[] #[]), (5, .slice av R.length cv), (6, .int .i64 (R.length : Nat)), (7, .int .i64 (k : Nat))]) (m := R.length) ?_ ?_
  · exact ⟨0, L0, Nat.zero_le _, rfl, h1, rfl, rfl, rfl, rfl, trivial⟩
  · rintro m f w' ⟨k, L, hk, rfl, hJk, hf⟩
    have hobt := hf.chain
    obtain ⟨g, rfl⟩ := hobt
    by_cases hlt : k < R.length
    · have hSk := hRd _ _ _ hJk
      have hobt : ∃ r, R[k]? = some r := ⟨_, List.getElem?_eq_getElem hlt⟩
      obtain ⟨r, hr⟩ := hobt
      obtain ⟨⟨d, x⟩, hx⟩ : ∃ p, X[k]? = some p := ⟨_, List.getElem?_eq_getElem (by omega)⟩
      have hobt := hSk.dat k r d x hr hx
      obtain ⟨hrd, hxs, hxv⟩ := hobt
      subst hrd
      have hobt := hSk.rows
      obtain ⟨hl, ⟨a0, c, hc, h00⟩ | ⟨b, off, c, hc, hat⟩⟩ := hobt
      · omega
      have hobt := Value.slice.inj hc
      obtain ⟨rfl, -, rfl⟩ := hobt
      have hat' := hat.row hr
      have hel := r.enc_len
      have hdl : (u8s r.d).length = 32 := by rw [u8s, List.length_map, r.hd]
      have hs : Step [] [] w' w' := Step.refl w'
      repeat (first | refine CW.seq ?_ | refine CW.block ?_ | refine CW.skip ?_ | refine CW.label ?_ | refine CW.exit ?_ | refine CW.condT rfl ?_ | refine CW.condF rfl ?_)
      refine CW.reg ?_
      refine WL.val rfl (run_bT (run_lss rfl rfl) (by omega)) ?_
      refine WL.nil ?_
      repeat (first | refine CW.seq ?_ | refine CW.block ?_ | refine CW.skip ?_ | refine CW.label ?_ | refine CW.exit ?_ | refine CW.condT rfl ?_ | refine CW.condF rfl ?_)
      refine CW.reg ?_
      first | refine WL.val rfl (run_ixSlN Try.underlying99 ty101 rfl rfl (by omega)) ?_ | refine WL.val rfl (run_ixSl Try.underlying99 ty101 rfl rfl (by omega)) ?_
      refine WL.val rfl (run_loadN ty101 rfl hel (by have h := hat'.step hs (by simp); exact h)) ?_
      refine WL.alloc ty101 rfl hs (fun b4 w hs => ?_)
      first | refine WL.storeAll ty101 rfl rfl ((hel)) (r.enc1) hs (by first | rfl | assumption) (fun w hs => ?_) | refine WL.storeAll_1 ty101 rfl rfl ((hel)) (r.enc1) hs (by first | rfl | assumption) (fun w hs => ?_) | refine WL.storeAll_2 ty101 rfl rfl ((hel)) (r.enc1) hs (by first | rfl | assumption) (fun w hs => ?_) | refine WL.storeAll_3 ty101 rfl rfl ((hel)) (r.enc1) hs (by first | rfl | assumption) (fun w hs => ?_) | refine WL.storeAll_4 ty101 rfl rfl ((hel)) (r.enc1) hs (by first | rfl | assumption) (fun w hs => ?_) | refine WL.storeAll ty101 rfl rfl ((hel)) (r.enc1) hs (by first | rfl | assumption) (fun w hs => ?_)
      refine WL.nil ?_
      repeat (first | refine CW.seq ?_ | refine CW.block ?_ | refine CW.skip ?_ | refine CW.label ?_ | refine CW.exit ?_ | refine CW.condT rfl ?_ | refine CW.condF rfl ?_)
      replace hs : Step [] [(b4, blk 101 r.enc)] w' w := hs
      refine CW.anyY (C := fun w => Step [] [(b4, blk 101 r.enc)] w' w) 6 8 mixedP rfl ?_
      replace hs := hs.drew
      refine ALI.val 0 [6] rfl (by kernel_rfl) rfl (fun w hs => run_move) ?_
      refine ALI.val 1 [2, 6] rfl (by kernel_rfl) rfl (fun w hs => run_field (o' := 0) Try.underlying101 rfl ty27 rfl rfl rfl) ?_
      refine ALI.val 2 [6] rfl (by kernel_rfl) rfl (fun w hs => run_loadN ty27 rfl hdl (by have h := (hs.a0).take 32; rw [row_fst] at h; exact h)) ?_
      refine ALI.val 3 [4, 5, 6] rfl (by kernel_rfl) rfl (fun w hs => run_field (o' := 32) Try.underlying101 rfl ty22 rfl rfl rfl) ?_
      refine ALI.val 4 [5, 6] rfl (by kernel_rfl) rfl (fun w hs => run_load1 ty22 rfl (hs.c0 (row_snd r))) ?_
      refine ALI.one 5 (by kernel_rfl) rfl hs (WLI.of rfl aliPost_noOut ?_)
      have hobt := Sl.form hxv
      obtain ⟨ra, rc, hrv⟩ := hobt
      refine WL.enter rfl (run_call en42 rfl rfl) (clone_spec _ (hxv.step hs.clear (by simp [Outside]; split <;> simp)) (by omega)) ?_
      rintro e w2 ⟨v', Lv, rfl, hu', hq⟩
      refine ⟨_, rfl, ?_⟩
      replace hs := Step.call0 hs hq
      refine WL.nil ⟨rfl, ?_⟩
      refine ALI.one 6 (by kernel_rfl) rfl (hs.dropL (L1 := Lv)) ?_
      refine WLI.yield rfl rfl rfl (hY k r.d x L w' _ v' Lv hx hJk (hs.dropR (L1 := Lv)) hu') ?_
      intro go w3 hgo
      refine WLI.nil ⟨rfl, ?_⟩
      refine ALI.relax (by kernel_rfl) (ALI.one 7 (by kernel_rfl) rfl trivial (WLI.of rfl aliPost_noOut (WL.val rfl (run_not rfl) (WL.nil ⟨rfl, ALI.end (by kernel_rfl) trivial ?_⟩))))
      cases go with
      | true =>
        rw [if_pos rfl] at hgo
        obtain ⟨L', hst, hJ'⟩ := hgo
        repeat (first | refine CW.seq ?_ | refine CW.block ?_ | refine CW.skip ?_ | refine CW.label ?_ | refine CW.exit ?_ | refine CW.condT rfl ?_ | refine CW.condF rfl ?_)
        refine CW.reg ?_
        refine WL.val rfl (run_add (c := ((k + 1 : Nat) : Int)) rfl rfl (by omega) (by omega)) ?_
        refine WL.val rfl (run_move) ?_
        refine WL.nil ?_
        repeat (first | refine CW.seq ?_ | refine CW.block ?_ | refine CW.skip ?_ | refine CW.label ?_ | refine CW.exit ?_)
        refine (show _ ∧ _ from ⟨rfl, _, ?_, k + 1, L', by omega, rfl, hJ', rfl, rfl, rfl, rfl, trivial⟩)
        omega
      | false =>
        rw [if_neg (by simp)] at hgo
        repeat (first | refine CW.seq ?_ | refine CW.block ?_ | refine CW.skip ?_ | refine CW.label ?_ | refine CW.exit ?_ | refine CW.condT rfl ?_ | refine CW.condF rfl ?_)
        refine CW.ret ?_
        exact fin_ret0 rfl ⟨⟨_, rfl⟩, .inr hgo⟩
    · obtain rfl : k = R.length := by omega
      repeat (first | refine CW.seq ?_ | refine CW.block ?_ | refine CW.skip ?_ | refine CW.label ?_ | refine CW.exit ?_ | refine CW.condT rfl ?_ | refine CW.condF rfl ?_)
      refine CW.reg ?_
      refine WL.val rfl (run_bF (run_lss rfl rfl) (by omega)) ?_
      refine WL.nil ?_
      repeat (first | refine CW.seq ?_ | refine CW.block ?_ | refine CW.skip ?_ | refine CW.label ?_ | refine CW.exit ?_ | refine CW.condT rfl ?_ | refine CW.condF rfl ?_)
      exact fin_end0 rfl ⟨⟨_, rfl⟩, .inl ⟨_, by rw [hlen]; exact hJk⟩⟩
end Go.Gx
/-! Abs -/
namespace Go.Gx
open Go.Proofs
set_option linter.unusedVariables false
set_option linter.unusedSimpArgs false
set_option maxRecDepth 100000
structure Blb where
  d : List UInt8
  x : List UInt8
  st : Nat
structure AS where
  k : Nat
  cap : Nat
  last : Nat
  gets : Nat
  puts : Nat
  X : List Blb
def usedX (X : List Blb) : Nat := (X.map fun b => b.x.length + 32).sum
def findX (d : List UInt8) (X : List Blb) : Option Blb := X.find? fun b => decide (b.d = d)
def insX (b : Blb) : List Blb → List Blb
  | [] => [b]
  | c :: X => if c.d = b.d then b :: X else if ltD b.d c.d then b :: c :: X else c :: insX b X
def delX (d : List UInt8) (X : List Blb) : List Blb := X.filter fun b => decide (b.d ≠ d)
abbrev SortedX (X : List Blb) : Prop := X.Pairwise fun a b => ltD a.d b.d = true
structure AS.Ok (s : AS) : Prop where
  k1 : 1 ≤ s.k
  k2 : s.k ≤ 32
  cap : s.cap ≤ 67108864
  sorted : SortedX s.X
  len : ∀ b ∈ s.X, b.d.length = 32
  used : usedX s.X ≤ 67108864
structure AS.Few (s : AS) (n : Nat) : Prop where
  last : s.last ≤ n
  gets : s.gets ≤ n
  puts : s.puts ≤ n
theorem AS.Few.mono {s : AS} {n m : Nat} (h : s.Few n) (hm : n ≤ m) : s.Few m := ⟨Nat.le_trans h.last hm, Nat.le_trans h.gets hm, Nat.le_trans h.puts hm⟩

theorem ltD_ne {a b : List UInt8} (h : ltD a b = true) : a ≠ b := fun e => by subst e; rw [ltD_irrefl] at h; cases h
theorem ltD_asymm {a b : List UInt8} (h : ltD a b = true) : ltD b a = false := by
  cases h2 : ltD b a with
  | false => rfl
  | true => have := ltD_trans _ _ _ h h2; rw [ltD_irrefl] at this; cases this
theorem SortedX.nodup {X : List Blb} (h : SortedX X) : (X.map (·.d)).Nodup := by
  rw [List.nodup_iff_pairwise_ne, List.pairwise_map]
  exact h.imp fun h => ltD_ne h
theorem usedX_perm {X Y : List Blb} (h : X.Perm Y) : usedX X = usedX Y := (h.map _).sum_nat
theorem usedX_cons (b : Blb) (X : List Blb) : usedX (b :: X) = b.x.length + 32 + usedX X := by simp [usedX]
theorem used_mem {X : List Blb} {b : Blb} (h : b ∈ X) : b.x.length + 32 ≤ usedX X := by
  induction X with
  | nil => cases h
  | cons c X ih =>
    rw [usedX_cons]
    rcases List.mem_cons.1 h with rfl | h
    · omega
    · have := ih h; omega
theorem used_len (X : List Blb) : 32 * X.length ≤ usedX X := by
  induction X with
  | nil => exact Nat.zero_le _
  | cons c X ih => rw [usedX_cons, List.length_cons]; omega
theorem findX_some {d : List UInt8} {X : List Blb} {b : Blb} (h : findX d X = some b) : b ∈ X ∧ b.d = d := by
  have h1 := List.find?_some h
  exact ⟨List.mem_of_find?_eq_some h, by simpa using h1⟩
theorem findX_none {d : List UInt8} {X : List Blb} (h : findX d X = none) : ∀ b ∈ X, b.d ≠ d := by
  intro b hb he
  have := List.find?_eq_none.1 h b hb
  simp [he] at this
theorem findX_mem {X : List Blb} (hn : (X.map (·.d)).Nodup) {b : Blb} (hb : b ∈ X) : findX b.d X = some b := by
  induction X with
  | nil => cases hb
  | cons c X ih =>
    rw [List.map_cons, List.nodup_cons] at hn
    rw [findX, List.find?_cons]
    by_cases hc : c.d = b.d
    · rcases List.mem_cons.1 hb with rfl | hb
      · simp
      · exact absurd (hc ▸ List.mem_map_of_mem hb) hn.1
    · simp only [hc, decide_false]
      rcases List.mem_cons.1 hb with rfl | hb
      · exact absurd rfl hc
      · exact ih hn.2 hb
theorem findX_perm {X Y : List Blb} (h : X.Perm Y) (hn : (Y.map (·.d)).Nodup) (d : List UInt8) : findX d X = findX d Y := by
  have hn' : (X.map (·.d)).Nodup := (h.map _).nodup_iff.2 hn
  cases hx : findX d X with
  | some b =>
    have hobt := findX_some hx
    obtain ⟨h1, rfl⟩ := hobt
    exact (findX_mem hn (h.mem_iff.1 h1)).symm
  | none =>
    cases hy : findX d Y with
    | none => rfl
    | some b =>
      have hobt := findX_some hy
      obtain ⟨h1, h2⟩ := hobt
      exact absurd h2 (findX_none hx b (h.mem_iff.2 h1))
theorem delX_none {d : List UInt8} {X : List Blb} (h : findX d X = none) : delX d X = X := by
  rw [delX, List.filter_eq_self]
  intro b hb
  simpa using findX_none h b hb
theorem delX_perm {X Y : List Blb} (h : X.Perm Y) (d : List UInt8) : (delX d X).Perm (delX d Y) := h.filter _
theorem delX_some {X : List Blb} (hn : (X.map (·.d)).Nodup) {d : List UInt8} {b : Blb} (h : findX d X = some b) : X.Perm (b :: delX d X) := by
  induction X with
  | nil => cases h
  | cons c X ih =>
    rw [List.map_cons, List.nodup_cons] at hn
    by_cases hc : c.d = d
    · have : c = b := by
        rw [findX, List.find?_cons] at h
        simpa [hc] using h
      subst this
      have hnn : findX d X = none := by
        cases hx : findX d X with
        | none => rfl
        | some e =>
          have hobt := findX_some hx
          obtain ⟨h1, h2⟩ := hobt
          exact absurd (by rw [hc, ← h2]; exact List.mem_map_of_mem h1) hn.1
      have hd : delX d (c :: X) = X := by
        rw [delX, List.filter_cons]
        simp only [hc, ne_eq, not_true_eq_false, decide_false, Bool.false_eq_true, if_false]
        exact delX_none hnn
      rw [hd]
    · have hx : findX d X = some b := by
        rw [findX, List.find?_cons] at h
        simp only [hc, decide_false] at h
        exact h
      have hd : delX d (c :: X) = c :: delX d X := by
        rw [delX, List.filter_cons, if_pos (by simpa using hc)]
        rfl
      rw [hd]
      exact ((ih hn.2 hx).cons c).trans (List.Perm.swap _ _ _)
theorem insX_perm (b : Blb) : ∀ {X : List Blb}, SortedX X → (insX b X).Perm (b :: delX b.d X)
  | [], _ => List.Perm.refl _
  | c :: X, h => by
    rw [SortedX, List.pairwise_cons] at h
    rw [insX]
    by_cases hc : c.d = b.d
    · rw [if_pos hc]
      have hd : delX b.d (c :: X) = X := by
        rw [delX, List.filter_cons]
        simp only [hc, ne_eq, not_true_eq_false, decide_false, Bool.false_eq_true, if_false]
        rw [List.filter_eq_self]
        intro e he
        have := h.1 e he
        rw [hc] at this
        simpa using (ltD_ne this).symm
      rw [hd]
    · rw [if_neg hc]
      have hd : delX b.d (c :: X) = c :: delX b.d X := by
        rw [delX, List.filter_cons, if_pos (by simpa using hc)]
        rfl
      by_cases hl : ltD b.d c.d = true
      · rw [if_pos hl, hd]
        have : delX b.d X = X := by
          rw [delX, List.filter_eq_self]
          intro e he
          have h1 := ltD_trans _ _ _ hl (h.1 e he)
          simpa using (ltD_ne h1).symm
        rw [this]
      · rw [if_neg hl, hd]
        exact ((insX_perm b h.2).cons c).trans (List.Perm.swap _ _ _)
theorem insX_mem {b e : Blb} : ∀ {X : List Blb}, e ∈ insX b X → e = b ∨ e ∈ X
  | [], h => by rw [insX] at h; exact .inl (by simpa using h)
  | c :: X, h => by
    rw [insX] at h
    split at h
    · rcases List.mem_cons.1 h with rfl | h
      · exact .inl rfl
      · exact .inr (by simp [h])
    · split at h
      · rcases List.mem_cons.1 h with rfl | h
        · exact .inl rfl
        · exact .inr h
      · rcases List.mem_cons.1 h with rfl | h
        · exact .inr (by simp)
        · rcases insX_mem h with h | h
          · exact .inl h
          · exact .inr (by simp [h])
theorem insX_sorted (b : Blb) : ∀ {X : List Blb}, SortedX X → SortedX (insX b X)
  | [], _ => by simp [insX, SortedX]
  | c :: X, h => by
    have h0 := h
    rw [SortedX, List.pairwise_cons] at h
    rw [insX]
    by_cases hc : c.d = b.d
    · rw [if_pos hc, SortedX, List.pairwise_cons]
      exact ⟨fun e he => by rw [← hc]; exact h.1 e he, h.2⟩
    · rw [if_neg hc]
      by_cases hl : ltD b.d c.d = true
      · rw [if_pos hl, SortedX, List.pairwise_cons]
        refine ⟨fun e he => ?_, h0⟩
        rcases List.mem_cons.1 he with rfl | he
        · exact hl
        · exact ltD_trans _ _ _ hl (h.1 e he)
      · rw [if_neg hl, SortedX, List.pairwise_cons]
        refine ⟨fun e he => ?_, insX_sorted b h.2⟩
        rcases insX_mem he with rfl | he
        · cases h1 : ltD c.d e.d with
          | true => rfl
          | false => exact absurd (ltD_tri _ _ h1 (by simpa using hl)) hc
        · exact h.1 e he
theorem delX_sorted {X : List Blb} (h : SortedX X) (d : List UInt8) : SortedX (delX d X) := h.filter _
/-- What an insertion costs. -/
theorem used_ins {X : List Blb} (h : SortedX X) (b : Blb) : usedX (insX b X) + (match findX b.d X with | some c => c.x.length + 32 | none => 0) = usedX X + (b.x.length + 32) := by
  rw [usedX_perm (insX_perm b h), usedX_cons]
  cases hf : findX b.d X with
  | none => rw [delX_none hf]; simp only; omega
  | some c =>
    have := usedX_perm (delX_some h.nodup hf)
    rw [usedX_cons] at this
    simp only
    omega
theorem used_del {X : List Blb} (h : SortedX X) (d : List UInt8) : usedX (delX d X) + (match findX d X with | some c => c.x.length + 32 | none => 0) = usedX X := by
  cases hf : findX d X with
  | none => rw [delX_none hf]; rfl
  | some c =>
    have := usedX_perm (delX_some h.nodup hf)
    rw [usedX_cons] at this
    simp only
    omega

/-! ### What the methods do -/
def AS.lay (s : AS) (d x : List UInt8) : Option AS := if usedX (insX ⟨d, x, s.last + 1⟩ s.X) ≤ s.cap then some { s with last := s.last + 1, X := insX ⟨d, x, s.last + 1⟩ s.X } else none
def AS.put (s : AS) (y : List UInt8) : List UInt8 × Nat × AS :=
  let s1 := { s with puts := s.puts + 1 }
  if 1048576 < y.length then (zD, 2, s1) else
  let d := frontL y s.k
  let go := match s1.lay d y with | some s2 => (d, 0, s2) | none => (zD, 43, s1)
  match findX d s.X with
  | some b => if b.x = y then (d, 0, s1) else if frontL b.x s.k = d then (zD, 44, s1) else go
  | none => go
def AS.get (s : AS) (d : List UInt8) : List UInt8 × Nat :=
  match findX d s.X with
  | none => ([], 41)
  | some b => if frontL b.x s.k = d then (b.x, 0) else ([], 42)
def AS.got (s : AS) : AS := { s with gets := s.gets + 1 }
def AS.raw (s : AS) (d : List UInt8) : List UInt8 := match findX d s.X with | some b => b.x | none => []
def AS.has (s : AS) (d : List UInt8) : Bool := (findX d s.X).isSome
def AS.whole (s : AS) (d : List UInt8) : Bool := match findX d s.X with | some b => decide (frontL b.x s.k = d) | none => false
def AS.stamp (s : AS) (d : List UInt8) : Nat := match findX d s.X with | some b => b.st | none => 0
def AS.evict (s : AS) (d : List UInt8) : AS := { s with X := delX d s.X }
def AS.plant (s : AS) (d y : List UInt8) : Nat × AS :=
  if fitsL d s.k = false then (1, s) else if 1048576 < y.length then (2, s) else
  match s.lay d y with | some s2 => (0, s2) | none => (43, s)
def AS.limit (s : AS) (c : Int) : Nat × AS := if 0 ≤ c ∧ c ≤ 67108864 then (0, { s with cap := c.toNat }) else (1, s)

theorem AS.Ok.lay {s s' : AS} (h : s.Ok) {d x : List UInt8} (hd : d.length = 32) (hl : s.lay d x = some s') : s'.Ok := by
  unfold AS.lay at hl
  split at hl
  · rename_i hu
    obtain rfl := (Option.some.inj hl).symm
    exact ⟨h.k1, h.k2, h.cap, insX_sorted _ h.sorted, fun b hb => by
      rcases insX_mem hb with rfl | hb
      · exact hd
      · exact h.len b hb, Nat.le_trans hu h.cap⟩
  · cases hl
theorem AS.Ok.del {s : AS} (h : s.Ok) (d : List UInt8) : (s.evict d).Ok :=
  ⟨h.k1, h.k2, h.cap, delX_sorted h.sorted d, fun b hb => h.len b ((List.mem_filter.1 hb).1), by
    have := used_del h.sorted d
    have h2 := h.used
    show usedX (delX d s.X) ≤ _
    omega⟩
theorem AS.Ok.put {s : AS} (h : s.Ok) (y : List UInt8) : (s.put y).2.2.Ok := by
  have h1 : ({ s with puts := s.puts + 1 } : AS).Ok := ⟨h.k1, h.k2, h.cap, h.sorted, h.len, h.used⟩
  have hgo : ∀ r : List UInt8 × Nat × AS, r = (match ({ s with puts := s.puts + 1 } : AS).lay (frontL y s.k) y with | some s2 => (frontL y s.k, 0, s2) | none => (zD, 43, { s with puts := s.puts + 1 })) → r.2.2.Ok := by
    intro r hr
    cases hl : ({ s with puts := s.puts + 1 } : AS).lay (frontL y s.k) y with
    | none => rw [hl] at hr; rw [hr]; exact h1
    | some s2 => rw [hl] at hr; rw [hr]; exact h1.lay (frontL_len h.k2) hl
  unfold AS.put
  simp only
  split
  · exact h1
  · split
    · split
      · exact h1
      · split
        · exact h1
        · exact hgo _ rfl
    · exact hgo _ rfl
theorem AS.Ok.plant {s : AS} (h : s.Ok) {d : List UInt8} (hd : d.length = 32) (y : List UInt8) : (s.plant d y).2.Ok := by
  unfold AS.plant
  split
  · exact h
  · split
    · exact h
    · cases hl : s.lay d y with
      | none => exact h
      | some s2 => exact h.lay hd hl
theorem AS.Ok.limit {s : AS} (h : s.Ok) (c : Int) : (s.limit c).2.Ok := by
  unfold AS.limit
  split
  · rename_i hc
    exact ⟨h.k1, h.k2, by show c.toNat ≤ _; omega, h.sorted, h.len, h.used⟩
  · exact h
theorem AS.Ok.got {s : AS} (h : s.Ok) : s.got.Ok := ⟨h.k1, h.k2, h.cap, h.sorted, h.len, h.used⟩
theorem AS.Few.lay {s s' : AS} {n : Nat} (h : s.Few n) {d x : List UInt8} (hl : s.lay d x = some s') : s'.Few (n + 1) := by
  unfold AS.lay at hl
  split at hl
  · obtain rfl := (Option.some.inj hl).symm
    exact ⟨Nat.succ_le_succ h.last, Nat.le_succ_of_le h.gets, Nat.le_succ_of_le h.puts⟩
  · cases hl
theorem AS.Few.put {s : AS} {n : Nat} (h : s.Few n) (y : List UInt8) : (s.put y).2.2.Few (n + 1) := by
  have h1 : ({ s with puts := s.puts + 1 } : AS).Few (n + 1) := ⟨Nat.le_succ_of_le h.last, Nat.le_succ_of_le h.gets, Nat.succ_le_succ h.puts⟩
  have hgo : ∀ r : List UInt8 × Nat × AS, r = (match ({ s with puts := s.puts + 1 } : AS).lay (frontL y s.k) y with | some s2 => (frontL y s.k, 0, s2) | none => (zD, 43, { s with puts := s.puts + 1 })) → r.2.2.Few (n + 1) := by
    intro r hr
    cases hl : ({ s with puts := s.puts + 1 } : AS).lay (frontL y s.k) y with
    | none => rw [hl] at hr; rw [hr]; exact h1
    | some s2 =>
      rw [hl] at hr; rw [hr]
      unfold AS.lay at hl
      split at hl
      · obtain rfl := (Option.some.inj hl).symm
        exact ⟨Nat.succ_le_succ h.last, Nat.le_succ_of_le h.gets, Nat.succ_le_succ h.puts⟩
      · cases hl
  unfold AS.put
  simp only
  split
  · exact h1
  · split
    · split
      · exact h1
      · split
        · exact h1
        · exact hgo _ rfl
    · exact hgo _ rfl
theorem AS.Few.plant {s : AS} {n : Nat} (h : s.Few n) (d y : List UInt8) : (s.plant d y).2.Few (n + 1) := by
  unfold AS.plant
  split
  · exact h.mono (Nat.le_succ _)
  · split
    · exact h.mono (Nat.le_succ _)
    · cases hl : s.lay d y with
      | none => exact h.mono (Nat.le_succ _)
      | some s2 => exact h.lay hl
theorem AS.Few.limit {s : AS} {n : Nat} (h : s.Few n) (c : Int) : (s.limit c).2.Few n := by
  unfold AS.limit
  split
  · exact ⟨h.last, h.gets, h.puts⟩
  · exact h
theorem AS.Few.got {s : AS} {n : Nat} (h : s.Few n) : s.got.Few (n + 1) := ⟨Nat.le_succ_of_le h.last, Nat.succ_le_succ h.gets, Nat.le_succ_of_le h.puts⟩
theorem AS.Few.evict {s : AS} {n : Nat} (h : s.Few n) (d : List UInt8) : (s.evict d).Few n := ⟨h.last, h.gets, h.puts⟩
end Go.Gx
/-! PAbs -/
namespace Go.Gx
open Go.Proofs
set_option linter.unusedVariables false
set_option linter.unusedSimpArgs false
set_option maxRecDepth 100000
attribute [local irreducible] shaL cutD frontL
/-- A slice value that holds these bytes, in blocks of D. -/
def Held (D : List (Nat × Obj)) (v : Value) (x : List UInt8) : Prop := ∃ Lv, OwnSl 5 1 v x.length (u8s x) Lv ∧ ∀ p ∈ Lv, p ∈ D
theorem Held.mono {D D' : List (Nat × Obj)} {v : Value} {x : List UInt8} (h : Held D v x) (hD : ∀ p ∈ D, p ∈ D') : Held D' v x := by
  obtain ⟨Lv, h1, h2⟩ := h
  exact ⟨Lv, h1, fun p hp => hD p (h2 p hp)⟩
theorem Held.form {D : List (Nat × Obj)} {v : Value} {x : List UInt8} (h : Held D v x) : ∃ a c, v = .slice a x.length c := by
  obtain ⟨Lv, h1, h2⟩ := h
  exact h1.form
theorem Held.sl {D : List (Nat × Obj)} {v : Value} {x : List UInt8} {w : World} (h : Held D v x) (hw : ∀ p ∈ D, w.heap[p.1]? = some p.2) : Sl w 1 v x.length (u8s x) := by
  obtain ⟨Lv, ⟨hl, h1⟩, h2⟩ := h
  rcases h1 with ⟨rfl, h0, rfl⟩ | ⟨b, cap, more, rfl, rfl, hc⟩
  · rw [List.eq_nil_of_length_eq_zero h0]; exact Sl.nil _ _ _
  · exact .mk hl (At.of_blk (hw _ (h2 (b, blk 5 (u8s x ++ more)) (by simp)))).left
theorem Held.room {D : List (Nat × Obj)} {v : Value} {x : List UInt8} (h : Held D v x) : Room v := by
  obtain ⟨Lv, ⟨hl, h1⟩, h2⟩ := h
  rcases h1 with ⟨rfl, h0, rfl⟩ | ⟨b, cap, more, rfl, rfl, hc⟩
  · exact Nat.le_refl _
  · show x.length ≤ cap
    rw [List.length_append] at hc
    omega
theorem Held.out {D : List (Nat × Obj)} {v : Value} {x : List UInt8} (h : Held D v x) {S : List Nat} (hS : ∀ p ∈ D, p.1 ∉ S) : Outside v S := by
  obtain ⟨Lv, ⟨hl, h1⟩, h2⟩ := h
  rcases h1 with ⟨rfl, h0, rfl⟩ | ⟨b, cap, more, rfl, rfl, hc⟩
  · trivial
  · exact hS _ (h2 (b, blk 5 (u8s x ++ more)) (by simp))
/-- A map's entry stands for a blob. -/
def EntB (D : List (Nat × Obj)) (p : MEnt) (b : Blb) : Prop := p.1 = b.d ∧ ∃ v, p.2.1 = .agg #[v, .int .i64 (b.st : Nat)] ∧ Held D v b.x
inductive View (D : List (Nat × Obj)) : List MEnt → List Blb → Prop
  | nil : View D [] []
  | cons {p : MEnt} {b : Blb} {M : List MEnt} {X : List Blb} : EntB D p b → View D M X → View D (p :: M) (b :: X)
section
variable {D D' : List (Nat × Obj)} {M : List MEnt} {X : List Blb} {d : List UInt8}
theorem EntB.mono {p : MEnt} {b : Blb} (h : EntB D p b) (hD : ∀ p ∈ D, p ∈ D') : EntB D' p b := by
  obtain ⟨h1, v, h2, h3⟩ := h
  exact ⟨h1, v, h2, h3.mono hD⟩
theorem View.mono (h : View D M X) (hD : ∀ p ∈ D, p ∈ D') : View D' M X := by
  induction h with
  | nil => exact .nil
  | cons h _ ih => exact .cons (h.mono hD) ih
theorem View.fst (h : View D M X) : M.map (fun p => p.1) = X.map (·.d) := by
  induction h with
  | nil => rfl
  | cons h _ ih => rw [List.map_cons, List.map_cons, ih, h.1]
theorem View.length (h : View D M X) : M.length = X.length := by
  have := congrArg List.length h.fst
  simpa using this
theorem View.blobV (h : View D M X) : ∀ p ∈ M, BlobV p.2.1 := by
  induction h with
  | nil => intro p hp; cases hp
  | cons h _ ih =>
    intro q hq
    rcases List.mem_cons.1 hq with rfl | hq
    · obtain ⟨_, v, h2, h3⟩ := h
      have hobt := h3.form
      obtain ⟨a, c, rfl⟩ := hobt
      exact ⟨a, _, c, _, h2⟩
    · exact ih q hq
theorem View.append {M' : List MEnt} {X' : List Blb} (h : View D M X) (h' : View D M' X') : View D (M ++ M') (X ++ X') := by
  induction h with
  | nil => exact h'
  | cons h _ ih => exact .cons h ih
theorem View.find (h : View D M X) (d : List UInt8) : match findX d X with
    | none => findD d M 0 = none
    | some b => ∃ i v, findD d M 0 = some (i, .agg #[v, .int .i64 (b.st : Nat)]) ∧ Held D v b.x := by
  induction h with
  | nil => rfl
  | @cons p b M X h _ ih =>
    obtain ⟨h1, v, h2, h3⟩ := h
    rw [findX, List.find?_cons]
    by_cases hd : b.d = d
    · simp only [hd, decide_true]
      refine ⟨0, v, ?_, h3⟩
      rw [findD, if_pos (by rw [h1, hd]), h2]
    · simp only [hd, decide_false]
      have e : findD d (p :: M) 0 = (findD d M 0).map fun q => (q.1 + 1, q.2) := by
        rw [findD, if_neg (by rw [h1]; exact fun e => hd e.symm), findD_shift]
      rw [e]
      have ih' := ih
      unfold findX at ih'
      cases hx : X.find? (fun b => decide (b.d = d)) with
      | none => rw [hx] at ih'; simp only at ih' ⊢; rw [ih']; rfl
      | some c =>
        rw [hx] at ih'
        obtain ⟨i, v', hv, hh⟩ := ih'
        exact ⟨i + 1, v', by rw [hv]; rfl, hh⟩
/-- A blob laid where it stood, or behind. -/
def upX (b : Blb) : List Blb → List Blb
  | [] => []
  | c :: X => if c.d = b.d then b :: X else c :: upX b X
theorem View.upd (h : View D M X) {b : Blb} {v : Value} (hv : Held D v b.x) : View D (updD b.d (.agg #[v, .int .i64 (b.st : Nat)]) M) (upX b X) := by
  induction h with
  | nil => exact .nil
  | @cons p c M X h hM ih =>
    rw [updD, upX]
    by_cases hc : c.d = b.d
    · rw [if_pos hc, if_pos (by rw [h.1]; exact hc.symm)]
      exact .cons ⟨h.1.trans hc, v, rfl, hv⟩ hM
    · rw [if_neg hc, if_neg (by rw [h.1]; exact fun e => hc e.symm)]
      exact .cons h ih
theorem upX_perm {b : Blb} : ∀ {X : List Blb}, (X.map (·.d)).Nodup → (findX b.d X).isSome = true → (upX b X).Perm (b :: delX b.d X)
  | [], _, h => by cases h
  | c :: X, hn, h => by
    rw [List.map_cons, List.nodup_cons] at hn
    rw [upX]
    by_cases hc : c.d = b.d
    · rw [if_pos hc]
      have hnn : findX b.d X = none := by
        cases hx : findX b.d X with
        | none => rfl
        | some e =>
          have hobt := findX_some hx
          obtain ⟨h1, h2⟩ := hobt
          exact absurd (by rw [hc, ← h2]; exact List.mem_map_of_mem h1) hn.1
      have hd : delX b.d (c :: X) = X := by
        rw [delX, List.filter_cons, if_neg (by simpa using hc)]
        exact delX_none hnn
      rw [hd]
    · rw [if_neg hc]
      have hx : (findX b.d X).isSome = true := by
        rw [findX, List.find?_cons] at h
        simp only [hc, decide_false] at h
        exact h
      have hd : delX b.d (c :: X) = c :: delX b.d X := by
        rw [delX, List.filter_cons, if_pos (by simpa using hc)]
        rfl
      rw [hd]
      exact ((upX_perm hn.2 hx).cons c).trans (List.Perm.swap _ _ _)
theorem View.put (h : View D M X) (hn : (X.map (·.d)).Nodup) {b : Blb} {v : Value} (hv : Held D v b.x) (clock : Nat) : ∃ X', View D (putM b.d (.agg #[v, .int .i64 (b.st : Nat)]) clock M) X' ∧ X'.Perm (b :: delX b.d X) := by
  have hf := h.find b.d
  rw [putM]
  cases hx : findX b.d X with
  | none =>
    rw [hx] at hf
    simp only at hf
    rw [hf]
    refine ⟨X ++ [b], h.append (.cons ⟨rfl, v, rfl, hv⟩ .nil), ?_⟩
    rw [delX_none hx]
    exact List.perm_append_comm (l₂ := [b])
  | some c =>
    rw [hx] at hf
    obtain ⟨i, u, hf, _⟩ := hf
    rw [hf]
    exact ⟨upX b X, h.upd hv, upX_perm hn (by rw [hx]; rfl)⟩
theorem View.del (h : View D M X) (hn : (X.map (·.d)).Nodup) (d : List UInt8) : View D (delM d M) (delX d X) := by
  induction h with
  | nil => exact .nil
  | @cons p c M X h hM ih =>
    rw [List.map_cons, List.nodup_cons] at hn
    rw [delM]
    by_cases hc : c.d = d
    · have hnn : findX d X = none := by
        cases hx : findX d X with
        | none => rfl
        | some e =>
          have hobt := findX_some hx
          obtain ⟨h1, h2⟩ := hobt
          exact absurd (by rw [hc, ← h2]; exact List.mem_map_of_mem h1) hn.1
      have hd : delX d (c :: X) = X := by
        rw [delX, List.filter_cons, if_neg (by simpa using hc)]
        exact delX_none hnn
      rw [hd, if_pos (by rw [h.1]; exact hc.symm)]
      exact hM
    · have hd : delX d (c :: X) = c :: delX d X := by
        rw [delX, List.filter_cons, if_pos (by simpa using hc)]
        rfl
      rw [hd, if_neg (by rw [h.1]; exact fun e => hc e.symm)]
      exact .cons h (ih hn.2)
end
theorem Born.put {M : List MEnt} {clock : Nat} (h : Born M clock) (d : List UInt8) (v : Value) : Born (putM d v clock M) (putC d clock M) := by
  rw [putM, putC]
  cases hf : (findD d M 0).isSome with
  | true =>
    simp only [if_true]
    have e : ∀ (M : List MEnt), (updD d v M).map (fun p => p.2.2) = M.map (fun p => p.2.2) := by
      intro M
      induction M with
      | nil => rfl
      | cons p M ih =>
        rw [updD]
        split
        · rfl
        · rw [List.map_cons, List.map_cons, ih]
    refine ⟨fun p hp => ?_, by rw [e]; exact h.nodup⟩
    have : p.2.2 ∈ (updD d v M).map (fun p => p.2.2) := List.mem_map.2 ⟨p, hp, rfl⟩
    rw [e] at this
    have hobt := List.mem_map.1 this
    obtain ⟨q, hq, hqe⟩ := hobt
    rw [← hqe]; exact h.lt q hq
  | false =>
    simp only [Bool.false_eq_true, if_false]
    refine ⟨fun p hp => ?_, ?_⟩
    · rcases List.mem_append.1 hp with hp | hp
      · have := h.lt p hp; omega
      · rw [List.mem_singleton.1 hp]; simp
    · rw [List.map_append, List.nodup_append]
      refine ⟨h.nodup, by simp, fun a ha b hb => ?_⟩
      have hobt := List.mem_map.1 ha
      obtain ⟨q, hq, rfl⟩ := hobt
      have := h.lt q hq
      simp at hb
      omega
theorem Born.del {M : List MEnt} {clock : Nat} (h : Born M clock) (d : List UInt8) : Born (delM d M) clock := by
  have hsub : ∀ (M : List MEnt), (delM d M).Sublist M := by
    intro M
    induction M with
    | nil => exact List.Sublist.refl _
    | cons p M ih =>
      rw [delM]
      split
      · exact List.sublist_cons_self _ _
      · exact ih.cons_cons p
  exact ⟨fun p hp => h.lt p ((hsub M).subset hp), h.nodup.sublist ((hsub M).map _)⟩

/-- The program's Store at bs, with its own blocks L and the bytes in D, stands for s. -/
def PRep (bs : Nat) (s : AS) (D L : List (Nat × Obj)) : Prop :=
  ∃ m clock M X', L = [(bs, blk 83 (stC s.k s.cap (usedX s.X) s.last m s.gets s.puts)), (m, mapObj M clock)] ∧ View D M X' ∧ X'.Perm s.X ∧ Born M clock
theorem PRep.mono {bs : Nat} {s : AS} {D D' L : List (Nat × Obj)} (h : PRep bs s D L) (hD : ∀ p ∈ D, p ∈ D') : PRep bs s D' L := by
  obtain ⟨m, clock, M, X', h1, h2, h3, h4⟩ := h
  exact ⟨m, clock, M, X', h1, h2.mono hD, h3, h4⟩
/-- Blocks that stand in a world, none twice. -/
def Lives (L : List (Nat × Obj)) (w : World) : Prop := Step (L.map (·.1)) L w w
theorem Lives.has {L : List (Nat × Obj)} {w : World} (h : Lives L w) : ∀ p ∈ L, w.heap[p.1]? = some p.2 := Step.has h
theorem Lives.of {S : List Nat} {L1 L2 : List (Nat × Obj)} {w w0 : World} (h : Step S (L1 ++ L2) w0 w) : Lives L1 w := Step.own h
theorem Lives.left {L1 L2 : List (Nat × Obj)} {w : World} (h : Lives (L1 ++ L2) w) : Lives L1 w := Step.own h
/-- What a proof about one method has of the Store. -/
structure Open' (bs : Nat) (s : AS) (D L : List (Nat × Obj)) (w : World) (m clock : Nat) (M : List MEnt) (X' : List Blb) : Prop where
  L : L = [(bs, blk 83 (stC s.k s.cap (usedX s.X) s.last m s.gets s.puts)), (m, mapObj M clock)]
  view : View D M X'
  perm : X'.Perm s.X
  born : Born M clock
  ne : bs ≠ m
  hb : w.heap[bs]? = some (blk 83 (stC s.k s.cap (usedX s.X) s.last m s.gets s.puts))
  hm : w.heap[m]? = some (mapObj M clock)
  out : ∀ p ∈ D, p.1 ∉ [bs, m]
  dat : ∀ p ∈ D, w.heap[p.1]? = some p.2
  nodup : (X'.map (·.d)).Nodup
  keys : Keys32 M
theorem PRep.open {bs : Nat} {s : AS} {D L : List (Nat × Obj)} {w : World} (h : PRep bs s D L) (ok : s.Ok) (hw : Lives (L ++ D) w) : ∃ m clock M X', Open' bs s D L w m clock M X' := by
  obtain ⟨m, clock, M, X', rfl, h2, h3, h4⟩ := h
  have hn := Step.nodup hw
  rw [List.map_append, List.nodup_append] at hn
  have hnd : (X'.map (·.d)).Nodup := (h3.map _).nodup_iff.2 ok.sorted.nodup
  refine ⟨m, clock, M, X', rfl, h2, h3, h4, by simpa using hn.1, hw.has (bs, blk 83 (stC s.k s.cap (usedX s.X) s.last m s.gets s.puts)) (by simp), hw.has (m, mapObj M clock) (by simp), fun p hp hb => hn.2.2 p.1 (by simpa using hb) p.1 (List.mem_map_of_mem hp) rfl, fun p hp => hw.has _ (by simp [hp]), hnd, ?_⟩
  intro p hp
  have h1 : p.1 ∈ M.map (fun p => p.1) := List.mem_map.2 ⟨p, hp, rfl⟩
  rw [h2.fst] at h1
  have hobt := List.mem_map.1 h1
  obtain ⟨b, hb, hbe⟩ := hobt
  rw [← hbe]; exact ok.len b (h3.mem_iff.1 hb)
/-- What a lookup finds. -/
theorem Open'.look {bs : Nat} {s : AS} {D L : List (Nat × Obj)} {w : World} {m clock : Nat} {M : List MEnt} {X' : List Blb} (o : Open' bs s D L w m clock M X') (ok : s.Ok) (d : List UInt8) :
    match findX d s.X with
    | none => findD d M 0 = none
    | some b => ∃ i a c, findD d M 0 = some (i, .agg #[.slice a b.x.length c, .int .i64 (b.st : Nat)]) ∧ Held D (.slice a b.x.length c) b.x := by
  have h := o.view.find d
  rw [findX_perm o.perm ok.sorted.nodup d] at h
  cases hx : findX d s.X with
  | none => rw [hx] at h; exact h
  | some b =>
    rw [hx] at h
    obtain ⟨i, v, h1, h2⟩ := h
    have hobt := h2.form
    obtain ⟨a, c, rfl⟩ := hobt
    exact ⟨i, a, c, h1, h2⟩
end Go.Gx
/-! PM1 -/
namespace Go.Gx
open Go.Proofs
set_option linter.unusedVariables false
set_option linter.unusedSimpArgs false
set_option maxRecDepth 100000
attribute [local irreducible] shaL cutD frontL
section
variable {bs : Nat} {s : AS} {D L : List (Nat × Obj)} {w0 : World} {d y : List UInt8} {v : Value} {n : Nat}
theorem ret_step {P : World → Prop} {r : Value} {L : List (Nat × Obj)} (h : ∀ w', Step [] [] w0 w' → P w') : ∀ e w', Ret0 r w0 e w' → e = .returned r ∧ P w' := fun e w' ⟨h1, h2⟩ => ⟨h1, h w' h2⟩
/-- Nothing was written: the Store's blocks stand. -/
theorem Lives.step0 {L : List (Nat × Obj)} {w w' : World} (h : Lives L w) (hs : Step [] [] w w') : Step (L.map (·.1)) L w w' := by
  have := Step.call0 (L := L) h hs
  simpa using this
theorem used_small (ok : s.Ok) {b : Blb} (hb : findX d s.X = some b) : b.x.length < 1099511627776 := by
  have := used_mem (findX_some hb).1
  have := ok.used
  omega
theorem width_abs (hR : PRep bs s D L) (ok : s.Ok) (hw : Lives (L ++ D) w0) : Calls Try.prog 14 #[.pointer (some ⟨bs, 0, none⟩)] w0 (Ret0 (.int .i64 (s.k : Nat)) w0) := by
  have hobt := hR.open ok hw
  obtain ⟨m, clock, M, X', o⟩ := hobt
  exact width_spec w0 o.hb
theorem cap_abs (hR : PRep bs s D L) (ok : s.Ok) (hw : Lives (L ++ D) w0) : Calls Try.prog 23 #[.pointer (some ⟨bs, 0, none⟩)] w0 (Ret0 (.int .i64 (s.cap : Nat)) w0) := by
  have hobt := hR.open ok hw
  obtain ⟨m, clock, M, X', o⟩ := hobt
  exact cap_spec w0 o.hb
theorem used_abs (hR : PRep bs s D L) (ok : s.Ok) (hw : Lives (L ++ D) w0) : Calls Try.prog 22 #[.pointer (some ⟨bs, 0, none⟩)] w0 (Ret0 (.int .i64 (usedX s.X : Nat)) w0) := by
  have hobt := hR.open ok hw
  obtain ⟨m, clock, M, X', o⟩ := hobt
  exact used_spec w0 o.hb
theorem len_abs (hR : PRep bs s D L) (ok : s.Ok) (hw : Lives (L ++ D) w0) : Calls Try.prog 21 #[.pointer (some ⟨bs, 0, none⟩)] w0 (Ret0 (.int .i64 (s.X.length : Nat)) w0) := by
  have hobt := hR.open ok hw
  obtain ⟨m, clock, M, X', o⟩ := hobt
  have := len_spec w0 o.hb o.hm
  rwa [o.view.length, o.perm.length_eq] at this
theorem counts_abs (hR : PRep bs s D L) (ok : s.Ok) (hw : Lives (L ++ D) w0) : Calls Try.prog 34 #[.pointer (some ⟨bs, 0, none⟩)] w0 (Ret0 (.agg #[.int .i64 (s.gets : Nat), .int .i64 (s.puts : Nat)]) w0) := by
  have hobt := hR.open ok hw
  obtain ⟨m, clock, M, X', o⟩ := hobt
  exact counts_spec w0 o.hb
theorem digest_abs (hR : PRep bs s D L) (ok : s.Ok) (hw : Lives (L ++ D) w0) (hy : Sl w0 1 v y.length (u8s y)) (hr : Room v) (hsy : y.length < 1099511627776) : Calls Try.prog 25 #[.pointer (some ⟨bs, 0, none⟩), v] w0 (Ret0 (.agg (u8s (frontL y s.k)).toArray) w0) := by
  have hobt := hR.open ok hw
  obtain ⟨m, clock, M, X', o⟩ := hobt
  exact digest_spec w0 (by rw [cell_blk o.hb]; rfl) hy hr hsy ok.k1 ok.k2
theorem has_abs (hR : PRep bs s D L) (ok : s.Ok) (hw : Lives (L ++ D) w0) (hd : d.length = 32) : Calls Try.prog 43 #[.pointer (some ⟨bs, 0, none⟩), .agg (u8s d).toArray] w0 (Ret0 (.bool (s.has d)) w0) := by
  have hobt := hR.open ok hw
  obtain ⟨m, clock, M, X', o⟩ := hobt
  have hl := o.look ok d
  unfold AS.has
  cases hx : findX d s.X with
  | none => rw [hx] at hl; exact has_spec (st := 0) (n := 0) (c := 0) (a := none) w0 o.hb o.hm o.keys hd (by rw [hl]; rfl) (by rw [hl]; rfl)
  | some b => rw [hx] at hl; obtain ⟨i, a, c, h1, h2⟩ := hl; exact has_spec w0 o.hb o.hm o.keys hd (by rw [h1]; rfl) (by rw [h1]; rfl)
theorem stamp_abs (hR : PRep bs s D L) (ok : s.Ok) (hw : Lives (L ++ D) w0) (hd : d.length = 32) : Calls Try.prog 48 #[.pointer (some ⟨bs, 0, none⟩), .agg (u8s d).toArray] w0 (Ret0 (.int .i64 (s.stamp d : Nat)) w0) := by
  have hobt := hR.open ok hw
  obtain ⟨m, clock, M, X', o⟩ := hobt
  have hl := o.look ok d
  unfold AS.stamp
  cases hx : findX d s.X with
  | none => rw [hx] at hl; exact stamp_spec (st := 0) (n := 0) (c := 0) (a := none) w0 o.hb o.hm o.keys hd (by rw [hl]; rfl)
  | some b => rw [hx] at hl; obtain ⟨i, a, c, h1, h2⟩ := hl; exact stamp_spec w0 o.hb o.hm o.keys hd (by rw [h1]; rfl)
theorem whole_abs (hR : PRep bs s D L) (ok : s.Ok) (hw : Lives (L ++ D) w0) (hd : d.length = 32) : Calls Try.prog 16 #[.pointer (some ⟨bs, 0, none⟩), .agg (u8s d).toArray] w0 (Ret0 (.bool (s.whole d)) w0) := by
  have hobt := hR.open ok hw
  obtain ⟨m, clock, M, X', o⟩ := hobt
  have hl := o.look ok d
  unfold AS.whole
  cases hx : findX d s.X with
  | none => rw [hx] at hl; exact whole_no w0 o.hb o.hm o.keys hd (by rw [hl]; rfl) (by rw [hl]; rfl)
  | some b => rw [hx] at hl; obtain ⟨i, a, c, h1, h2⟩ := hl; exact whole_yes w0 o.hb o.hm o.keys hd (by rw [h1]; rfl) (by rw [h1]; rfl) (h2.sl o.dat) h2.room (used_small ok hx) ok.k1 ok.k2
theorem raw_abs (hR : PRep bs s D L) (ok : s.Ok) (hw : Lives (L ++ D) w0) (hd : d.length = 32) : Calls Try.prog 17 #[.pointer (some ⟨bs, 0, none⟩), .agg (u8s d).toArray] w0 fun e w' => ∃ v' Lv, e = .returned (.tuple #[v', .bool (s.has d)]) ∧ OwnSl 5 1 v' (s.raw d).length (u8s (s.raw d)) Lv ∧ Step [] Lv w0 w' := by
  have hobt := hR.open ok hw
  obtain ⟨m, clock, M, X', o⟩ := hobt
  have hl := o.look ok d
  unfold AS.has AS.raw
  cases hx : findX d s.X with
  | none => rw [hx] at hl; exact raw_spec (st := 0) (c := 0) (a := none) (x := []) w0 o.hb o.hm o.keys hd (by rw [hl]; rfl) (by rw [hl]; rfl) (Sl.nil _ _ _) (by simp)
  | some b => rw [hx] at hl; obtain ⟨i, a, c, h1, h2⟩ := hl; exact raw_spec w0 o.hb o.hm o.keys hd (by rw [h1]; rfl) (by rw [h1]; rfl) (h2.sl o.dat) (used_small ok hx)
theorem get_abs (hR : PRep bs s D L) (ok : s.Ok) (hfew : s.Few n) (hn : n < 1099511627776) (hw : Lives (L ++ D) w0) (hd : d.length = 32) : Calls Try.prog 19 #[.pointer (some ⟨bs, 0, none⟩), .agg (u8s d).toArray] w0 fun e w' => ∃ v' Lv L', e = .returned (.tuple #[v', .int .i64 ((s.get d).2 : Nat)]) ∧ OwnSl 5 1 v' (s.get d).1.length (u8s (s.get d).1) Lv ∧ PRep bs s.got D L' ∧ Step (L.map (·.1)) (L' ++ Lv) w0 w' := by
  have hobt := hR.open ok hw
  obtain ⟨m, clock, M, X', o⟩ := hobt
  have hl := o.look ok d
  have hg := hfew.gets
  have hP : PRep bs s.got D [(bs, blk 83 (stC s.k s.cap (usedX s.X) s.last m (s.gets + 1) s.puts)), (m, mapObj M clock)] := ⟨m, clock, M, X', rfl, o.view, o.perm, o.born⟩
  rw [o.L]
  unfold AS.get
  cases hx : findX d s.X with
  | none =>
    rw [hx] at hl
    refine (get_missing o.ne w0 o.hb o.hm hd (by omega) o.keys hl).mono fun e w' ⟨h1, h2⟩ => ?_
    exact ⟨_, [], _, h1, OwnSl.nil _ _, hP, by simpa using h2⟩
  | some b =>
    rw [hx] at hl
    obtain ⟨i, a, c, h1, h2⟩ := hl
    by_cases hk : frontL b.x s.k = d
    · simp only [hk, if_true]
      refine (get_ok o.ne w0 o.hb o.hm hd (by omega) o.keys (by rw [h1]; rfl) (by rw [h1]; rfl) (h2.sl o.dat) (h2.out o.out) h2.room (used_small ok hx) ok.k1 ok.k2 hk).mono fun e w' ⟨v', Lv, h3, h4, h5⟩ => ?_
      exact ⟨v', Lv, _, h3, h4, hP, h5⟩
    · simp only [hk, if_false]
      refine (get_corrupt o.ne w0 o.hb o.hm hd (by omega) o.keys (by rw [h1]; rfl) (by rw [h1]; rfl) (h2.sl o.dat) (h2.out o.out) h2.room (used_small ok hx) ok.k1 ok.k2 hk).mono fun e w' ⟨h3, h4⟩ => ?_
      exact ⟨_, [], _, h3, OwnSl.nil _ _, hP, by simpa using h4⟩
theorem limit_abs (hR : PRep bs s D L) (ok : s.Ok) (hw : Lives (L ++ D) w0) (c : Int) : Calls Try.prog 29 #[.pointer (some ⟨bs, 0, none⟩), .int .i64 c] w0 fun e w' => ∃ L', e = .returned (.int .i64 ((s.limit c).1 : Nat)) ∧ PRep bs (s.limit c).2 D L' ∧ Step (L.map (·.1)) L' w0 w' := by
  have hobt := hR.open ok hw
  obtain ⟨m, clock, M, X', o⟩ := hobt
  unfold AS.limit
  by_cases hc : 0 ≤ c ∧ c ≤ 67108864
  · simp only [hc, and_self, if_true]
    have hobt : ∃ k : Nat, c = k := ⟨c.toNat, by omega⟩
    obtain ⟨c, rfl⟩ := hobt
    rw [o.L]
    refine (limit_ok (by omega) w0 o.hb).mono fun e w' ⟨h1, h2⟩ => ?_
    refine ⟨_, h1, ⟨m, clock, M, X', rfl, o.view, o.perm, o.born⟩, ?_⟩
    have hl := hw
    rw [o.L] at hl
    have h3 : Step [bs, m] [(bs, blk 83 (stC s.k c (usedX s.X) s.last m s.gets s.puts)), (m, mapObj M clock)] w0 w' := Step.call (L1 := [_]) (L := [_]) (Lives.left hl) h2
    simpa using h3
  · rw [if_neg hc]
    refine (limit_bad hc w0).mono fun e w' ⟨h1, h2⟩ => ?_
    exact ⟨L, h1, hR, (Lives.left hw).step0 h2⟩
theorem evict_abs (hR : PRep bs s D L) (ok : s.Ok) (hw : Lives (L ++ D) w0) (hd : d.length = 32) : Calls Try.prog 26 #[.pointer (some ⟨bs, 0, none⟩), .agg (u8s d).toArray] w0 fun e w' => ∃ L', e = .returned (.bool (s.has d)) ∧ PRep bs (s.evict d) D L' ∧ Step (L.map (·.1)) L' w0 w' := by
  have hobt := hR.open ok hw
  obtain ⟨m, clock, M, X', o⟩ := hobt
  have hl := o.look ok d
  unfold AS.has
  cases hx : findX d s.X with
  | none =>
    rw [hx] at hl
    refine (evict_no w0 o.hb o.hm o.keys hd hl).mono fun e w' ⟨h1, h2⟩ => ?_
    have e1 : s.evict d = s := by unfold AS.evict; rw [delX_none hx]
    exact ⟨L, h1, by rw [e1]; exact hR, (Lives.left hw).step0 h2⟩
  | some b =>
    rw [hx] at hl
    obtain ⟨i, a, c, h1, h2⟩ := hl
    have hu := used_del ok.sorted d
    rw [hx] at hu
    simp only at hu
    have hok := ok.used
    rw [o.L]
    refine (evict_yes o.ne w0 o.hb o.hm o.keys hd h1 (h2.sl o.dat) (used_small ok hx) (by omega) (by omega) (h2.out o.out)).mono fun e w' ⟨h3, h4⟩ => ?_
    have e1 : usedX s.X - (b.x.length + 32) = usedX (delX d s.X) := by omega
    rw [e1] at h4
    exact ⟨_, h3, ⟨m, clock, delM d M, delX d X', rfl, o.view.del o.nodup d, delX_perm o.perm d, o.born.del d⟩, h4⟩
end
end Go.Gx
/-! PM2 -/
namespace Go.Gx
open Go.Proofs
set_option linter.unusedVariables false
set_option linter.unusedSimpArgs false
set_option maxRecDepth 100000
attribute [local irreducible] shaL cutD frontL
section
variable {bs : Nat} {s : AS} {D L : List (Nat × Obj)} {w0 : World} {d y : List UInt8} {v : Value} {n : Nat}
/-- What stands behind lay. -/
theorem laid_rep {m clock puts : Nat} {M : List MEnt} {X' : List Blb} {v' : Value} {Lv : List (Nat × Obj)} (hv : View D M X') (hp : X'.Perm s.X) (hB : Born M clock) (hs : SortedX s.X) (hO : OwnSl 5 1 v' y.length (u8s y) Lv) :
    PRep bs { s with last := s.last + 1, puts := puts, X := insX ⟨d, y, s.last + 1⟩ s.X } (Lv ++ D)
      [(bs, blk 83 (stC s.k s.cap (usedX (insX ⟨d, y, s.last + 1⟩ s.X)) (s.last + 1) m s.gets puts)), (m, mapObj (putM d (.agg #[v', .int .i64 (s.last + 1 : Nat)]) clock M) (putC d clock M))] := by
  have hn : (X'.map (·.d)).Nodup := (hp.map _).nodup_iff.2 hs.nodup
  have hobt := (hv.mono (D' := Lv ++ D) (fun p hp => List.mem_append_right _ hp)).put (b := ⟨d, y, s.last + 1⟩) hn ⟨Lv, hO, fun p hp => List.mem_append_left _ hp⟩ clock
  obtain ⟨X2, h1, h2⟩ := hobt
  exact ⟨m, _, _, X2, rfl, h1, h2.trans (((delX_perm hp d).cons _).trans (insX_perm _ hs).symm), hB.put d _⟩
theorem put_abs (hR : PRep bs s D L) (ok : s.Ok) (hfew : s.Few n) (hn : n < 1099511627776) (hw : Lives (L ++ D) w0) (hy : Sl w0 1 v y.length (u8s y)) (hr : Room v) (hO : OutE v y (L.map (·.1))) (hsy : y.length < 1099511627776) :
    Calls Try.prog 12 #[.pointer (some ⟨bs, 0, none⟩), v] w0 fun e w' => ∃ L' D', e = .returned (.tuple #[.agg (u8s (s.put y).1).toArray, .int .i64 ((s.put y).2.1 : Nat)]) ∧ PRep bs (s.put y).2.2 (D' ++ D) L' ∧ Step (L.map (·.1)) (L' ++ D') w0 w' := by
  have hobt := hR.open ok hw
  obtain ⟨m, clock, M, X', o⟩ := hobt
  rw [o.L] at hO ⊢
  replace hO : OutE v y [bs, m] := hO
  have hp := hfew.puts
  have hla := hfew.last
  have hfl := frontL_len (x := y) ok.k2
  have hl := o.look ok (frontL y s.k)
  have hu := used_ins ok.sorted ⟨frontL y s.k, y, s.last + 1⟩
  simp only at hu
  have huse := ok.used
  have hstay : ∀ (r : Value) (e : Ending) (w' : World), (e = .returned r ∧ Step [bs, m] [(bs, blk 83 (stC s.k s.cap (usedX s.X) s.last m s.gets (s.puts + 1))), (m, mapObj M clock)] w0 w') → ∃ L' D', e = .returned r ∧ PRep bs { s with puts := s.puts + 1 } (D' ++ D) L' ∧ Step ([(bs, blk 83 (stC s.k s.cap (usedX s.X) s.last m s.gets s.puts)), (m, mapObj M clock)].map (·.1)) (L' ++ D') w0 w' := by
    rintro r e w' ⟨h1, h2⟩
    exact ⟨_, [], h1, ⟨m, clock, M, X', rfl, o.view, o.perm, o.born⟩, by simpa using h2⟩
  unfold AS.put
  simp only
  by_cases hlong : 1048576 < y.length
  · rw [if_pos hlong]
    exact (put_long o.ne w0 o.hb o.hm hy (by omega) hlong).mono (hstay _)
  · rw [if_neg hlong]
    cases hx : findX (frontL y s.k) s.X with
    | none =>
      rw [hx] at hl hu
      simp only at hl hu ⊢
      unfold AS.lay
      simp only
      by_cases hc : usedX (insX ⟨frontL y s.k, y, s.last + 1⟩ s.X) ≤ s.cap
      · rw [if_pos hc]
        simp only
        refine (put_ok (x := []) (a := none) (c := 0) (st := 0) (b := false) o.ne w0 o.hb o.hm o.keys (by rw [hl]; rfl) (by rw [hl]; rfl) (Sl.nil _ _ _) trivial (Nat.le_refl _) (by simp) hy hO hr (by omega) hsy (by omega) ok.k1 ok.k2 (fun h => by cases h) (by omega) (by omega) (fun h => by cases h) (fun h => by cases h) (fun _ => rfl) (by omega)).mono fun e w' ⟨v', Lv, h1, h2, h3⟩ => ?_
        rw [show usedX s.X + (y.length + 32) = usedX (insX ⟨frontL y s.k, y, s.last + 1⟩ s.X) by omega] at h3
        exact ⟨_, Lv, h1, laid_rep o.view o.perm o.born ok.sorted h2, h3⟩
      · rw [if_neg hc]
        simp only
        exact (put_full (x := []) (a := none) (c := 0) (st := 0) (b := false) o.ne w0 o.hb o.hm o.keys (by rw [hl]; rfl) (by rw [hl]; rfl) (Sl.nil _ _ _) trivial (Nat.le_refl _) (by simp) hy hO hr (by omega) hsy (by omega) ok.k1 ok.k2 (fun h => by cases h) (by omega) (fun h => by cases h) (fun h => by cases h) (fun _ => by omega)).mono (hstay _)
    | some b =>
      rw [hx] at hl hu
      simp only at hu ⊢
      obtain ⟨i, a, c, h1, h2⟩ := hl
      have hub := used_mem (findX_some hx).1
      by_cases hxy : b.x = y
      · rw [if_pos hxy]
        exact (put_same o.ne w0 o.hb o.hm o.keys (by rw [h1]; rfl) (by rw [h1]; rfl) (h2.sl o.dat) (h2.out o.out) hy hO hr (by omega) hsy (by omega) ok.k1 ok.k2 hxy).mono (hstay _)
      · rw [if_neg hxy]
        by_cases hcl : frontL b.x s.k = frontL y s.k
        · rw [if_pos hcl]
          exact (put_clash o.ne w0 o.hb o.hm o.keys (by rw [h1]; rfl) (by rw [h1]; rfl) (h2.sl o.dat) (h2.out o.out) h2.room (by omega) hy hO hr (by omega) hsy (by omega) ok.k1 ok.k2 hxy hcl).mono (hstay _)
        · rw [if_neg hcl]
          unfold AS.lay
          simp only
          by_cases hc : usedX (insX ⟨frontL y s.k, y, s.last + 1⟩ s.X) ≤ s.cap
          · rw [if_pos hc]
            simp only
            refine (put_ok (b := true) o.ne w0 o.hb o.hm o.keys (by rw [h1]; rfl) (by rw [h1]; rfl) (h2.sl o.dat) (h2.out o.out) h2.room (by omega) hy hO hr (by omega) hsy (by omega) ok.k1 ok.k2 (fun _ => ⟨hxy, hcl⟩) (by omega) (by omega) (fun _ => hub) (fun _ => rfl) (fun h => by cases h) (by omega)).mono fun e w' ⟨v', Lv, h3, h4, h5⟩ => ?_
            rw [show usedX s.X + (y.length + 32) - (b.x.length + 32) = usedX (insX ⟨frontL y s.k, y, s.last + 1⟩ s.X) by omega] at h5
            exact ⟨_, Lv, h3, laid_rep o.view o.perm o.born ok.sorted h4, h5⟩
          · rw [if_neg hc]
            simp only
            exact (put_full (b := true) o.ne w0 o.hb o.hm o.keys (by rw [h1]; rfl) (by rw [h1]; rfl) (h2.sl o.dat) (h2.out o.out) h2.room (by omega) hy hO hr (by omega) hsy (by omega) ok.k1 ok.k2 (fun _ => ⟨hxy, hcl⟩) (by omega) (fun _ => hub) (fun _ => by omega) (fun h => by cases h)).mono (hstay _)
theorem plant_abs (hR : PRep bs s D L) (ok : s.Ok) (hfew : s.Few n) (hn : n < 1099511627776) (hw : Lives (L ++ D) w0) (hd : d.length = 32) (hy : Sl w0 1 v y.length (u8s y)) (hO : OutE v y (L.map (·.1))) (hsy : y.length < 1099511627776) :
    Calls Try.prog 15 #[.pointer (some ⟨bs, 0, none⟩), .agg (u8s d).toArray, v] w0 fun e w' => ∃ L' D', e = .returned (.int .i64 ((s.plant d y).1 : Nat)) ∧ PRep bs (s.plant d y).2 (D' ++ D) L' ∧ Step (L.map (·.1)) (L' ++ D') w0 w' := by
  have hobt := hR.open ok hw
  obtain ⟨m, clock, M, X', o⟩ := hobt
  rw [o.L] at hO ⊢
  replace hO : OutE v y [bs, m] := hO
  have hla := hfew.last
  have hl := o.look ok d
  have hu := used_ins ok.sorted ⟨d, y, s.last + 1⟩
  simp only at hu
  have huse := ok.used
  have hP : ∀ w', Step [bs, m] [(bs, blk 83 (stC s.k s.cap (usedX s.X) s.last m s.gets s.puts)), (m, mapObj M clock)] w0 w' → ∃ L' D', PRep bs s (D' ++ D) L' ∧ Step [bs, m] (L' ++ D') w0 w' := fun w' h2 => ⟨_, [], ⟨m, clock, M, X', rfl, o.view, o.perm, o.born⟩, by simpa using h2⟩
  have hlv := hw
  rw [o.L] at hlv
  have hstay0 : ∀ w', Step [] [] w0 w' → ∃ L' D', PRep bs s (D' ++ D) L' ∧ Step [bs, m] (L' ++ D') w0 w' := fun w' h2 => hP w' ((Lives.left hlv).step0 h2)
  unfold AS.plant
  by_cases hf : fitsL d s.k = false
  · rw [if_pos hf]
    refine (plant_arg w0 o.hb hd ok.k1 ok.k2 hf).mono fun e w' ⟨h1, h2⟩ => ?_
    have hobt := hstay0 w' h2
    obtain ⟨L', D', h3, h4⟩ := hobt
    exact ⟨L', D', h1, h3, h4⟩
  · rw [if_neg hf]
    replace hf : fitsL d s.k = true := by simpa using hf
    by_cases hlong : 1048576 < y.length
    · rw [if_pos hlong]
      refine (plant_long o.ne w0 o.hb o.hm hd hf hy hsy hlong).mono fun e w' ⟨h1, h2⟩ => ?_
      have hobt := hstay0 w' h2
      obtain ⟨L', D', h3, h4⟩ := hobt
      exact ⟨L', D', h1, h3, h4⟩
    · rw [if_neg hlong]
      unfold AS.lay
      cases hx : findX d s.X with
      | none =>
        rw [hx] at hl hu
        simp only at hl hu
        by_cases hc : usedX (insX ⟨d, y, s.last + 1⟩ s.X) ≤ s.cap
        · rw [if_pos hc]
          simp only
          refine (plant_ok (x := []) (a := none) (n := 0) (c := 0) (st := 0) (b := false) o.ne w0 o.hb o.hm hd hf o.keys (by rw [hl]; rfl) (by rw [hl]; rfl) hy hO hsy (by omega) (by simp) (by omega) (by omega) (fun h => by cases h) (fun h => by cases h) (fun _ => rfl) (by omega)).mono fun e w' ⟨v', Lv, h1, h2, h3⟩ => ?_
          rw [show usedX s.X + (y.length + 32) = usedX (insX ⟨d, y, s.last + 1⟩ s.X) by omega] at h3
          exact ⟨_, Lv, h1, laid_rep o.view o.perm o.born ok.sorted h2, h3⟩
        · rw [if_neg hc]
          simp only
          refine (plant_full (x := []) (a := none) (n := 0) (c := 0) (st := 0) (b := false) o.ne w0 o.hb o.hm hd hf o.keys (by rw [hl]; rfl) (by rw [hl]; rfl) hy hO hsy (by omega) (by simp) (by omega) (fun h => by cases h) (fun h => by cases h) (fun _ => by omega)).mono fun e w' ⟨h1, h2⟩ => ?_
          have hobt := hP w' h2
          obtain ⟨L', D', h3, h4⟩ := hobt
          exact ⟨L', D', h1, h3, h4⟩
      | some b =>
        rw [hx] at hl hu
        simp only at hu
        obtain ⟨i, a, c, h1, h2⟩ := hl
        have hub := used_mem (findX_some hx).1
        by_cases hc : usedX (insX ⟨d, y, s.last + 1⟩ s.X) ≤ s.cap
        · rw [if_pos hc]
          simp only
          refine (plant_ok (x := []) (b := true) o.ne w0 o.hb o.hm hd hf o.keys (by rw [h1]; rfl) (by rw [h1]; rfl) hy hO hsy (by omega) (by omega) (by omega) (by omega) (fun _ => hub) (fun _ => rfl) (fun h => by cases h) (by omega)).mono fun e w' ⟨v', Lv, h3, h4, h5⟩ => ?_
          rw [show usedX s.X + (y.length + 32) - (b.x.length + 32) = usedX (insX ⟨d, y, s.last + 1⟩ s.X) by omega] at h5
          exact ⟨_, Lv, h3, laid_rep o.view o.perm o.born ok.sorted h4, h5⟩
        · rw [if_neg hc]
          simp only
          refine (plant_full (x := []) (b := true) o.ne w0 o.hb o.hm hd hf o.keys (by rw [h1]; rfl) (by rw [h1]; rfl) hy hO hsy (by omega) (by omega) (by omega) (fun _ => hub) (fun _ => by omega) (fun h => by cases h)).mono fun e w' ⟨h3, h4⟩ => ?_
          have hobt := hP w' h4
          obtain ⟨L', D', h5, h6⟩ := hobt
          exact ⟨L', D', h3, h5, h6⟩
def newS (k c : Nat) : AS := ⟨k, c, 0, 0, 0, []⟩
theorem newS_ok {k c : Nat} (hk1 : 1 ≤ k) (hk : k ≤ 32) (hc : c ≤ 67108864) : (newS k c).Ok := ⟨hk1, hk, hc, List.Pairwise.nil, fun b hb => (by cases hb), (by simp [newS, usedX])⟩
theorem newS_few {k c : Nat} : (newS k c).Few 0 := ⟨Nat.le_refl _, Nat.le_refl _, Nat.le_refl _⟩
theorem new_abs {k c : Nat} (hk1 : 1 ≤ k) (hk : k ≤ 32) (hc : c ≤ 67108864) (w : World) : Calls Try.prog 20 #[.int .i64 k, .int .i64 c] w fun e w' => ∃ bs L', e = .returned (.tuple #[.pointer (some ⟨bs, 0, none⟩), .int .i64 0]) ∧ PRep bs (newS k c) [] L' ∧ Step [] L' w w' :=
  (new_ok hk1 hk hc w).mono fun e w' ⟨bs, m, h1, h2⟩ => ⟨bs, _, h1, ⟨m, 0, [], [], rfl, .nil, List.Perm.refl _, ⟨fun p hp => (by cases hp), (by simp)⟩⟩, h2⟩
theorem view_fst2 {M M2 : List MEnt} {X : List Blb} (h : View D M X) (hp : (M2.map (fun p => (p.1, p.2.1))).Perm (M.map (fun p => (p.1, p.2.1)))) : ∃ X2, View D M2 X2 ∧ X2.Perm X := by
  have key : ∀ (N : List (List UInt8 × Value)) (M : List MEnt) (X : List Blb), View D M X → N.Perm (M.map (fun p => (p.1, p.2.1))) → ∀ M2 : List MEnt, M2.map (fun p => (p.1, p.2.1)) = N → ∃ X2, View D M2 X2 ∧ X2.Perm X := by
    intro N
    induction N with
    | nil =>
      intro M X hv hN M2 hM2
      have hl := hN.length_eq
      simp only [List.length_nil, List.length_map] at hl
      obtain rfl := List.eq_nil_of_length_eq_zero hl.symm
      cases hv
      obtain rfl : M2 = [] := by simpa using hM2
      exact ⟨[], .nil, List.Perm.refl _⟩
    | cons q N ih =>
      intro M X hv hN M2 hM2
      have hq : q ∈ M.map (fun p => (p.1, p.2.1)) := hN.mem_iff.1 (by simp)
      have hobt := List.mem_map.1 hq
      obtain ⟨p, hp, rfl⟩ := hobt
      have hobt := List.append_of_mem hp
      obtain ⟨A, B, rfl⟩ := hobt
      have split : ∀ (A : List MEnt) (X : List Blb), View D (A ++ p :: B) X → ∃ XA b XB, X = XA ++ b :: XB ∧ EntB D p b ∧ View D (A ++ B) (XA ++ XB) := by
        intro A
        induction A with
        | nil =>
          intro X hX
          cases hX with
          | cons hb hX => exact ⟨[], _, _, rfl, hb, hX⟩
        | cons a A ihA =>
          intro X hX
          cases hX with
          | cons hb hX =>
            have hobt := ihA _ hX
            obtain ⟨XA, b, XB, rfl, h1, h2⟩ := hobt
            exact ⟨_ :: XA, b, XB, rfl, h1, .cons hb h2⟩
      have hobt := split A X hv
      obtain ⟨XA, b, XB, rfl, hb, hv'⟩ := hobt
      cases M2 with
      | nil => simp at hM2
      | cons p2 M2 =>
        rw [List.map_cons, List.cons.injEq] at hM2
        have hN' : N.Perm ((A ++ B).map (fun p => (p.1, p.2.1))) := by
          have : ((p.1, p.2.1) :: N).Perm ((p.1, p.2.1) :: (A ++ B).map (fun p => (p.1, p.2.1))) := hN.trans (by
            rw [List.map_append, List.map_cons, List.map_append]
            exact List.perm_middle)
          exact (List.perm_cons _).1 this
        have hobt := ih _ _ hv' hN' M2 hM2.2
        obtain ⟨X2, h1, h2⟩ := hobt
        have hpe := hM2.1
        rw [Prod.mk.injEq] at hpe
        refine ⟨b :: X2, .cons ⟨hpe.1.trans hb.1, ?_⟩ h1, (h2.cons b).trans List.perm_middle.symm⟩
        have hobt := hb.2
        obtain ⟨v, h3, h4⟩ := hobt
        exact ⟨v, hpe.2.trans h3, h4⟩
  exact key _ M X h hp M2 rfl
theorem twin_abs (hR : PRep bs s D L) (ok : s.Ok) (hw : Lives (L ++ D) w0) : Calls Try.prog 37 #[.pointer (some ⟨bs, 0, none⟩)] w0 fun e w' => ∃ bt L', e = .returned (.pointer (some ⟨bt, 0, none⟩)) ∧ PRep bt s D L' ∧ Step [] L' w0 w' := by
  have hobt := hR.open ok hw
  obtain ⟨m, clock, M, X', o⟩ := hobt
  have hK : (M.map (fun p => p.1)).Nodup := by rw [o.view.fst]; exact o.nodup
  refine (twin_spec w0 o.hb o.hm o.keys o.born hK o.view.blobV).mono fun e w' ⟨bt, m2, M2, h1, h2, h3, h4⟩ => ?_
  have hobt := view_fst2 o.view h2
  obtain ⟨X2, h5, h6⟩ := hobt
  exact ⟨bt, _, h1, ⟨m2, _, M2, X2, rfl, h5, h6.trans o.perm, h3⟩, h4⟩
end
end Go.Gx
/-! RS1 -/
namespace Go.Gx
open Go.Proofs
set_option linter.unusedVariables false
set_option linter.unusedSimpArgs false
set_option maxRecDepth 100000
attribute [local irreducible] shaL cutD frontL
def posX (d : List UInt8) : List Blb → Nat
  | [] => 0
  | b :: X => if ltD b.d d = true then posX d X + 1 else 0
theorem posX_le (d : List UInt8) : ∀ X, posX d X ≤ X.length
  | [] => Nat.le_refl _
  | b :: X => by
    rw [posX]
    split
    · have := posX_le d X; simp only [List.length_cons]; omega
    · exact Nat.zero_le _
theorem posX_drop (d : List UInt8) : ∀ (X : List Blb) (i : Nat), i ≤ X.length → (∀ j b, j < i → X[j]? = some b → ltD b.d d = true) → posX d X = i + posX d (X.drop i)
  | X, 0, _, _ => by simp
  | [], i + 1, h, _ => by simp at h
  | b :: X, i + 1, h, hl => by
    rw [posX, if_pos (hl 0 b (by omega) rfl), posX_drop d X i (by simpa using h) (fun j c hj hc => hl (j + 1) c (by omega) (by simpa using hc))]
    simp only [List.drop_succ_cons]
    omega
theorem posX_at {d : List UInt8} {X : List Blb} {i : Nat} {b : Blb} (h : X[i]? = some b) (hl : ltD b.d d = false) : posX d (X.drop i) = 0 := by
  have hobt := List.getElem?_eq_some_iff.1 h
  obtain ⟨hlt, rfl⟩ := hobt
  rw [List.drop_eq_getElem_cons hlt, posX, if_neg (by rw [hl]; simp)]
theorem pos_find {d : List UInt8} : ∀ {X : List Blb}, SortedX X → (X[posX d X]?).bind (fun b => if b.d = d then some b else none) = findX d X
  | [], _ => rfl
  | b :: X, h => by
    rw [SortedX, List.pairwise_cons] at h
    rw [posX, findX, List.find?_cons]
    by_cases hl : ltD b.d d = true
    · rw [if_pos hl, List.getElem?_cons_succ, pos_find h.2]
      have : b.d ≠ d := ltD_ne hl
      simp only [this, decide_false]
      rfl
    · rw [if_neg hl]
      simp only [List.getElem?_cons_zero, Option.bind_some]
      by_cases he : b.d = d
      · simp [he]
      · simp only [he, if_false, decide_false]
        have hlt : ltD d b.d = true := by
          cases h2 : ltD d b.d with
          | true => rfl
          | false => exact absurd (ltD_tri _ _ (by simpa using hl) h2) he
        symm
        rw [List.find?_eq_none]
        intro c hc
        have := ltD_trans _ _ _ hlt (h.1 c hc)
        simpa using (ltD_ne this).symm
theorem pos_some {d : List UInt8} {X : List Blb} (h : SortedX X) {c : Blb} (hf : findX d X = some c) : X[posX d X]? = some c ∧ c.d = d := by
  have h1 := pos_find (d := d) h
  rw [hf] at h1
  cases hx : X[posX d X]? with
  | none => rw [hx] at h1; cases h1
  | some b =>
    rw [hx] at h1
    simp only [Option.bind_some] at h1
    split at h1
    · rename_i he
      obtain rfl := Option.some.inj h1
      exact ⟨rfl, he⟩
    · cases h1
theorem pos_none {d : List UInt8} {X : List Blb} (h : SortedX X) (hf : findX d X = none) {c : Blb} (hx : X[posX d X]? = some c) : c.d ≠ d := findX_none hf c (List.mem_of_getElem? hx)
theorem ins_there {b : Blb} : ∀ {X : List Blb}, SortedX X → (findX b.d X).isSome = true → insX b X = X.set (posX b.d X) b
  | [], _, h => by cases h
  | c :: X, h, hf => by
    rw [SortedX, List.pairwise_cons] at h
    rw [insX, posX]
    by_cases hc : c.d = b.d
    · rw [if_pos hc, if_neg (by rw [hc, ltD_irrefl]; simp)]
      rfl
    · rw [if_neg hc]
      rw [findX, List.find?_cons] at hf
      simp only [hc, decide_false] at hf
      by_cases hl : ltD b.d c.d = true
      · exfalso
        have hobt := Option.isSome_iff_exists.1 hf
        obtain ⟨e, he⟩ := hobt
        have hm := List.mem_of_find?_eq_some he
        have h1 := List.find?_some he
        have := ltD_ne (ltD_trans _ _ _ hl (h.1 e hm))
        simp at h1
        exact this h1.symm
      · rw [if_neg hl]
        have hcb : ltD c.d b.d = true := by
          cases h2 : ltD c.d b.d with
          | true => rfl
          | false => exact absurd (ltD_tri _ _ h2 (by simpa using hl)) hc
        rw [if_pos hcb, ins_there h.2 hf]
        rfl
theorem ins_new {b : Blb} : ∀ {X : List Blb}, SortedX X → findX b.d X = none → insX b X = X.take (posX b.d X) ++ b :: X.drop (posX b.d X)
  | [], _, _ => rfl
  | c :: X, h, hf => by
    rw [SortedX, List.pairwise_cons] at h
    rw [insX, posX]
    by_cases hc : c.d = b.d
    · rw [findX, List.find?_cons] at hf
      simp [hc] at hf
    · rw [if_neg hc]
      rw [findX, List.find?_cons] at hf
      simp only [hc, decide_false] at hf
      by_cases hl : ltD b.d c.d = true
      · rw [if_pos hl, if_neg (by rw [ltD_asymm hl]; simp)]
        rfl
      · rw [if_neg hl]
        have hcb : ltD c.d b.d = true := by
          cases h2 : ltD c.d b.d with
          | true => rfl
          | false => exact absurd (ltD_tri _ _ h2 (by simpa using hl)) hc
        rw [if_pos hcb, ins_new h.2 hf]
        rfl
theorem del_pos {d : List UInt8} : ∀ {X : List Blb}, SortedX X → (findX d X).isSome = true → delX d X = X.take (posX d X) ++ X.drop (posX d X + 1)
  | [], _, h => by cases h
  | c :: X, h, hf => by
    rw [SortedX, List.pairwise_cons] at h
    rw [posX]
    by_cases hc : c.d = d
    · have hd : delX d (c :: X) = X := by
        rw [delX, List.filter_cons, if_neg (by simpa using hc), List.filter_eq_self]
        intro e he
        have := h.1 e he
        rw [hc] at this
        simpa using (ltD_ne this).symm
      rw [hd, if_neg (by rw [hc, ltD_irrefl]; simp)]
      rfl
    · rw [findX, List.find?_cons] at hf
      simp only [hc, decide_false] at hf
      have hd : delX d (c :: X) = c :: delX d X := by
        rw [delX, List.filter_cons, if_pos (by simpa using hc)]
        rfl
      have hl : ltD c.d d = true := by
        have hobt := Option.isSome_iff_exists.1 hf
        obtain ⟨e, he⟩ := hobt
        have hm := List.mem_of_find?_eq_some he
        have h1 := List.find?_some he
        simp at h1
        rw [← h1]; exact h.1 e hm
      rw [hd, if_pos hl, del_pos h.2 hf]
      rfl
theorem rless_spec {x y : List UInt8} (hx : x.length = 32) (hy : y.length = 32) (w0 : World) : Calls Try.prog 101 #[.agg (u8s x).toArray, .agg (u8s y).toArray] w0 (Ret0 (.bool (ltD x y)) w0) := by
  have hs : Step [] [] w0 w0 := Step.refl w0
  have hxl : (u8s x).length = 32 := by rw [u8s, List.length_map, hx]
  have hyl : (u8s y).length = 32 := by rw [u8s, List.length_map, hy]
  have hdrop : ∀ (i : Nat) (x y : List UInt8), i ≤ x.length → i ≤ y.length → (∀ j, j < i → x[j]? = y[j]?) → ltD x y = ltD (x.drop i) (y.drop i) := by
    intro i
    induction i with
    | zero => intro x y _ _ _; rfl
    | succ i ih =>
      intro x y h1 h2 h3
      match x, y, h1, h2 with
      | a :: x, b :: y, h1, h2 =>
        have h0 := h3 0 (by omega)
        simp only [List.getElem?_cons_zero, Option.some.injEq] at h0
        subst h0
        rw [ltD, if_neg (by rw [UInt8.lt_iff_toNat_lt]; omega), if_neg (by rw [UInt8.lt_iff_toNat_lt]; omega), List.drop_succ_cons, List.drop_succ_cons]
        exact ih x y (by simpa using h1) (by simpa using h2) (fun j hj => by have := h3 (j + 1) (by omega); simpa using this)
  refine calls (n := 24) Try.func101 rfl rfl rfl ?_
  repeat (first | refine CW.seq ?_ | refine CW.block ?_ | refine CW.skip ?_ | refine CW.label ?_ | refine CW.exit ?_ | refine CW.condT rfl ?_ | refine CW.condF rfl ?_)
  refine CW.reg ?_
  refine WL.box (cs := u8s x) rfl rfl rfl hs (fun b2 w hs => ?_)
  refine WL.box (cs := u8s y) rfl rfl rfl hs (fun b3 w hs => ?_)
  refine WL.val rfl (run_assign) ?_
  refine WL.nil ?_
  repeat (first | refine CW.seq ?_ | refine CW.block ?_ | refine CW.skip ?_ | refine CW.label ?_ | refine CW.exit ?_ | refine CW.condT rfl ?_ | refine CW.condF rfl ?_)
  refine CW.reg ?_
  refine WL.val rfl (run_assign) ?_
  refine WL.nil ?_
  repeat (first | refine CW.seq ?_ | refine CW.block ?_ | refine CW.skip ?_ | refine CW.label ?_ | refine CW.exit ?_ | refine CW.condT rfl ?_ | refine CW.condF rfl ?_)
  refine CW.loop (fun m f w' => ∃ i, i ≤ 32 ∧ m = 32 - i ∧ (∀ j, j < i → x[j]? = y[j]?) ∧ Step [] [(b3, blk 87 (u8s y)), (b2, blk 87 (u8s x))] w0 w' ∧ Holds f [(2, .pointer (some ⟨b2, 0, none⟩)), (3, .pointer (some ⟨b3, 0, none⟩)), (5, .int .i64 (i : Nat))]) (m := 32) ?_ ?_
  · exact ⟨0, by omega, rfl, fun j hj => by omega, hs, rfl, rfl, rfl, trivial⟩
  · rintro m f w ⟨i, hi, rfl, heq, hs, hf⟩
    have hobt := hf.chain
    obtain ⟨g, rfl⟩ := hobt
    by_cases hlt : i < 32
    · have hobt : ∃ a, x[i]? = some a := ⟨_, List.getElem?_eq_getElem (by omega)⟩
      obtain ⟨a, ha⟩ := hobt
      have hobt : ∃ b, y[i]? = some b := ⟨_, List.getElem?_eq_getElem (by omega)⟩
      obtain ⟨b, hb⟩ := hobt
      have hca : (u8s x)[0 + i * 1]? = some (.int .u8 a.toNat) := by simp [u8s, ha]
      have hcb : (u8s y)[0 + i * 1]? = some (.int .u8 b.toNat) := by simp [u8s, hb]
      have e1 := hdrop i x y (by omega) (by omega) heq
      rw [List.drop_eq_getElem_cons (by omega), List.drop_eq_getElem_cons (show i < y.length by omega)] at e1
      have hxa : x[i] = a := (List.getElem?_eq_some_iff.1 ha).2
      have hyb : y[i] = b := (List.getElem?_eq_some_iff.1 hb).2
      rw [hxa, hyb, ltD] at e1
      by_cases hab : a = b
      · subst hab
        repeat (first | refine CW.seq ?_ | refine CW.block ?_ | refine CW.skip ?_ | refine CW.label ?_ | refine CW.exit ?_ | refine CW.condT rfl ?_ | refine CW.condF rfl ?_)
        refine CW.reg ?_
        refine WL.val rfl (run_move) ?_
        refine WL.val rfl (run_bT (run_lss rfl rfl) (by omega)) ?_
        refine WL.nil ?_
        repeat (first | refine CW.seq ?_ | refine CW.block ?_ | refine CW.skip ?_ | refine CW.label ?_ | refine CW.exit ?_ | refine CW.condT rfl ?_ | refine CW.condF rfl ?_)
        refine CW.quiet mixedP (by kernel_rfl) hs ?_
        refine QL.val rfl (fun w hs => run_move) ?_
        first | refine QL.val rfl (fun w hs => run_ixArrN Try.underlying87 ty5 rfl rfl (by omega)) ?_ | refine QL.val rfl (fun w hs => run_ixArr Try.underlying87 ty5 rfl rfl (by omega)) ?_
        refine QL.val rfl (fun w hs => run_load1 ty5 rfl (hs.c1 hca)) ?_
        refine QL.val rfl (fun w hs => run_move) ?_
        first | refine QL.val rfl (fun w hs => run_ixArrN Try.underlying87 ty5 rfl rfl (by omega)) ?_ | refine QL.val rfl (fun w hs => run_ixArr Try.underlying87 ty5 rfl rfl (by omega)) ?_
        refine QL.val rfl (fun w hs => run_load1 ty5 rfl (hs.c0 hcb)) ?_
        refine QL.val rfl (fun w hs => run_bF (run_neq rfl rfl) (by simp)) ?_
        refine QL.nil (fun w hs => ?_)
        repeat (first | refine CW.seq ?_ | refine CW.block ?_ | refine CW.skip ?_ | refine CW.label ?_ | refine CW.exit ?_)
        first | refine CW.condP rfl (fun h => ?_) (fun h => ?_) | refine CW.cond rfl (fun h => ?_) (fun h => ?_)
        · cases h
        repeat (first | refine CW.seq ?_ | refine CW.block ?_ | refine CW.skip ?_ | refine CW.label ?_ | refine CW.exit ?_ | refine CW.condT rfl ?_ | refine CW.condF rfl ?_)
        refine CW.reg ?_
        refine WL.val rfl (run_move) ?_
        refine WL.val rfl (run_add (c := ((i + 1 : Nat) : Int)) rfl rfl (by omega) (by omega)) ?_
        refine WL.val rfl (run_assign) ?_
        refine WL.nil ?_
        repeat (first | refine CW.seq ?_ | refine CW.block ?_ | refine CW.skip ?_ | refine CW.label ?_ | refine CW.exit ?_)
        refine (show _ ∧ _ from ⟨rfl, _, ?_, i + 1, by omega, rfl, ?_, hs, rfl, rfl, rfl, trivial⟩)
        · omega
        · intro j hj
          by_cases hji : j = i
          · subst hji; rw [ha, hb]
          · exact heq j (by omega)
      · have hne : (a.toNat : Int) ≠ b.toNat := fun e => hab (UInt8.toNat_inj.1 (by omega))
        repeat (first | refine CW.seq ?_ | refine CW.block ?_ | refine CW.skip ?_ | refine CW.label ?_ | refine CW.exit ?_ | refine CW.condT rfl ?_ | refine CW.condF rfl ?_)
        refine CW.reg ?_
        refine WL.val rfl (run_move) ?_
        refine WL.val rfl (run_bT (run_lss rfl rfl) (by omega)) ?_
        refine WL.nil ?_
        repeat (first | refine CW.seq ?_ | refine CW.block ?_ | refine CW.skip ?_ | refine CW.label ?_ | refine CW.exit ?_ | refine CW.condT rfl ?_ | refine CW.condF rfl ?_)
        refine CW.quiet mixedP (by kernel_rfl) hs ?_
        refine QL.val rfl (fun w hs => run_move) ?_
        first | refine QL.val rfl (fun w hs => run_ixArrN Try.underlying87 ty5 rfl rfl (by omega)) ?_ | refine QL.val rfl (fun w hs => run_ixArr Try.underlying87 ty5 rfl rfl (by omega)) ?_
        refine QL.val rfl (fun w hs => run_load1 ty5 rfl (hs.c1 hca)) ?_
        refine QL.val rfl (fun w hs => run_move) ?_
        first | refine QL.val rfl (fun w hs => run_ixArrN Try.underlying87 ty5 rfl rfl (by omega)) ?_ | refine QL.val rfl (fun w hs => run_ixArr Try.underlying87 ty5 rfl rfl (by omega)) ?_
        refine QL.val rfl (fun w hs => run_load1 ty5 rfl (hs.c0 hcb)) ?_
        refine QL.val rfl (fun w hs => run_bT (run_neq rfl rfl) (by exact hne)) ?_
        refine QL.nil (fun w hs => ?_)
        repeat (first | refine CW.seq ?_ | refine CW.block ?_ | refine CW.skip ?_ | refine CW.label ?_ | refine CW.exit ?_)
        first | refine CW.condP rfl (fun h => ?_) (fun h => ?_) | refine CW.cond rfl (fun h => ?_) (fun h => ?_)
        · have e2 : decide ((a.toNat : Int) < b.toNat) = ltD x y := by
            rw [e1]
            by_cases h1 : a < b
            · rw [if_pos h1, decide_eq_true]; rw [UInt8.lt_iff_toNat_lt] at h1; omega
            · have h2 : b < a := by rw [UInt8.lt_iff_toNat_lt] at *; omega
              rw [if_neg h1, if_pos h2, decide_eq_false]
              rw [UInt8.lt_iff_toNat_lt] at h1; omega
          repeat (first | refine CW.seq ?_ | refine CW.block ?_ | refine CW.skip ?_ | refine CW.label ?_ | refine CW.exit ?_ | refine CW.condT rfl ?_ | refine CW.condF rfl ?_)
          refine CW.quiet mixedP (by kernel_rfl) hs ?_
          refine QL.val rfl (fun w hs => run_move) ?_
          first | refine QL.val rfl (fun w hs => run_ixArrN Try.underlying87 ty5 rfl rfl (by omega)) ?_ | refine QL.val rfl (fun w hs => run_ixArr Try.underlying87 ty5 rfl rfl (by omega)) ?_
          refine QL.val rfl (fun w hs => run_load1 ty5 rfl (hs.c1 hca)) ?_
          refine QL.val rfl (fun w hs => run_move) ?_
          first | refine QL.val rfl (fun w hs => run_ixArrN Try.underlying87 ty5 rfl rfl (by omega)) ?_ | refine QL.val rfl (fun w hs => run_ixArr Try.underlying87 ty5 rfl rfl (by omega)) ?_
          refine QL.val rfl (fun w hs => run_load1 ty5 rfl (hs.c0 hcb)) ?_
          refine QL.val rfl (fun w hs => run_lss rfl rfl) ?_
          refine QL.val rfl (fun w hs => run_assign) ?_
          refine QL.nil (fun w hs => ?_)
          repeat (first | refine CW.seq ?_ | refine CW.block ?_ | refine CW.skip ?_ | refine CW.label ?_ | refine CW.exit ?_ | refine CW.condT rfl ?_ | refine CW.condF rfl ?_)
          refine CW.ret ?_
          refine fin_ret1 rfl ?_
          exact ⟨congrArg (fun b => Ending.returned (.bool b)) e2, hs.clear⟩
        · cases h
    · obtain rfl : i = 32 := by omega
      have e : ltD x y = false := by
        have : x = y := by
          apply List.ext_getElem?
          intro j
          by_cases hj : j < 32
          · exact heq j hj
          · rw [List.getElem?_eq_none (by omega), List.getElem?_eq_none (by omega)]
        subst this
        exact ltD_irrefl x
      repeat (first | refine CW.seq ?_ | refine CW.block ?_ | refine CW.skip ?_ | refine CW.label ?_ | refine CW.exit ?_ | refine CW.condT rfl ?_ | refine CW.condF rfl ?_)
      refine CW.reg ?_
      refine WL.val rfl (run_move) ?_
      refine WL.val rfl (run_bF (run_lss rfl rfl) (by omega)) ?_
      refine WL.nil ?_
      repeat (first | refine CW.seq ?_ | refine CW.block ?_ | refine CW.skip ?_ | refine CW.label ?_ | refine CW.exit ?_ | refine CW.condT rfl ?_ | refine CW.condF rfl ?_)
      refine CW.reg ?_
      refine WL.val rfl (run_assign) ?_
      refine WL.nil ?_
      repeat (first | refine CW.seq ?_ | refine CW.block ?_ | refine CW.skip ?_ | refine CW.label ?_ | refine CW.exit ?_ | refine CW.condT rfl ?_ | refine CW.condF rfl ?_)
      refine CW.ret ?_
      refine fin_ret1 rfl ?_
      exact ⟨congrArg (fun b => Ending.returned (.bool b)) e.symm, hs.clear⟩
end Go.Gx
/-! RS2 -/
namespace Go.Gx
open Go.Proofs
set_option linter.unusedVariables false
set_option linter.unusedSimpArgs false
set_option maxRecDepth 100000
attribute [local irreducible] shaL cutD frontL
/-- A Blob's cells. -/
abbrev RB := List UInt8 × Value × Nat
def rbC (t : RB) : List Value := u8s t.1 ++ [t.2.1, .int .i64 (t.2.2 : Nat)]
def rowsT (T : List RB) : List Value := (T.map rbC).flatten
def rsC (k cap last : Nat) (v : Value) (gets puts : Nat) : List Value := [.int .i64 k, .int .i64 cap, .int .i64 last, v, .int .i64 gets, .int .i64 puts]
def RbB (D : List (Nat × Obj)) (t : RB) (b : Blb) : Prop := t.1 = b.d ∧ t.2.2 = b.st ∧ Held D t.2.1 b.x
inductive RView (D : List (Nat × Obj)) : List RB → List Blb → Prop
  | nil : RView D [] []
  | cons {t : RB} {b : Blb} {T : List RB} {X : List Blb} : RbB D t b → RView D T X → RView D (t :: T) (b :: X)
theorem RbB.mono {D D' : List (Nat × Obj)} {t : RB} {b : Blb} (h : RbB D t b) (hD : ∀ p ∈ D, p ∈ D') : RbB D' t b := ⟨h.1, h.2.1, h.2.2.mono hD⟩
theorem RView.mono {D D' : List (Nat × Obj)} {T : List RB} {X : List Blb} (h : RView D T X) (hD : ∀ p ∈ D, p ∈ D') : RView D' T X := by
  induction h with
  | nil => exact .nil
  | cons h _ ih => exact .cons (h.mono hD) ih
theorem RView.length {D : List (Nat × Obj)} {T : List RB} {X : List Blb} (h : RView D T X) : T.length = X.length := by
  induction h with
  | nil => rfl
  | cons _ _ ih => simp [ih]
theorem RView.at {D : List (Nat × Obj)} {T : List RB} {X : List Blb} (h : RView D T X) : ∀ {i : Nat} {b : Blb}, X[i]? = some b → ∃ t, T[i]? = some t ∧ RbB D t b := by
  induction h with
  | nil => intro i b hb; simp at hb
  | cons h _ ih =>
    intro i b hb
    cases i with
    | zero => rw [List.getElem?_cons_zero] at hb; obtain rfl := Option.some.inj hb; exact ⟨_, rfl, h⟩
    | succ i => exact ih hb
theorem RView.take {D : List (Nat × Obj)} {T : List RB} {X : List Blb} (h : RView D T X) : ∀ (i : Nat), RView D (T.take i) (X.take i) := by
  induction h with
  | nil => intro i; simp; exact .nil
  | cons h _ ih => intro i; cases i with
    | zero => exact .nil
    | succ i => exact .cons h (ih i)
theorem RView.drop {D : List (Nat × Obj)} {T : List RB} {X : List Blb} (h : RView D T X) : ∀ (i : Nat), RView D (T.drop i) (X.drop i) := by
  induction h with
  | nil => intro i; simp; exact .nil
  | cons h hT ih => intro i; cases i with
    | zero => exact .cons h hT
    | succ i => exact ih i
theorem RView.append {D : List (Nat × Obj)} {T T' : List RB} {X X' : List Blb} (h : RView D T X) (h' : RView D T' X') : RView D (T ++ T') (X ++ X') := by
  induction h with
  | nil => exact h'
  | cons h _ ih => exact .cons h ih
theorem RView.set {D : List (Nat × Obj)} {T : List RB} {X : List Blb} (h : RView D T X) {t : RB} {b : Blb} (hb : RbB D t b) : ∀ (i : Nat), RView D (T.set i t) (X.set i b) := by
  induction h with
  | nil => intro i; exact .nil
  | cons h hT ih => intro i; cases i with
    | zero => exact .cons hb hT
    | succ i => exact .cons h (ih i)
theorem RView.len32 {D : List (Nat × Obj)} {T : List RB} {X : List Blb} (h : RView D T X) (hX : ∀ b ∈ X, b.d.length = 32) : ∀ t ∈ T, t.1.length = 32 := by
  induction h with
  | nil => intro t ht; cases ht
  | cons h _ ih =>
    intro t ht
    rcases List.mem_cons.1 ht with rfl | ht
    · rw [h.1]; exact hX _ (by simp)
    · exact ih (fun b hb => hX b (by simp [hb])) t ht
theorem rbC_len {t : RB} (h : t.1.length = 32) : (rbC t).length = 34 := by simp [rbC, u8s, h]
theorem rowsT_len {T : List RB} (h : ∀ t ∈ T, t.1.length = 32) : (rowsT T).length = T.length * 34 := by
  induction T with
  | nil => rfl
  | cons t T ih =>
    have := ih (fun t ht => h t (by simp [ht]))
    rw [rowsT] at this
    rw [rowsT, List.map_cons, List.flatten_cons, List.length_append, rbC_len (h t (by simp)), List.length_cons]; omega
theorem rowsT_append (T T' : List RB) : rowsT (T ++ T') = rowsT T ++ rowsT T' := by simp [rowsT]
theorem rowsT_at : ∀ (T : List RB), (∀ t ∈ T, t.1.length = 32) → ∀ (i j : Nat) (t : RB), T[i]? = some t → j < 34 → (rowsT T)[i * 34 + j]? = (rbC t)[j]?
  | [], _, i, j, t, h, _ => by simp at h
  | r :: T, hl, 0, j, t, h, hj => by
    rw [List.getElem?_cons_zero] at h
    obtain rfl := Option.some.inj h
    rw [rowsT, List.map_cons, List.flatten_cons, Nat.zero_mul, Nat.zero_add, List.getElem?_append_left (by rw [rbC_len (hl _ (by simp))]; exact hj)]
  | r :: T, hl, i + 1, j, t, h, hj => by
    rw [rowsT, List.map_cons, List.flatten_cons, List.getElem?_append_right (by rw [rbC_len (hl _ (by simp))]; omega), rbC_len (hl _ (by simp)), show (i + 1) * 34 + j - 34 = i * 34 + j by omega]
    exact rowsT_at T (fun t ht => hl t (by simp [ht])) i j t h hj
theorem At.rowT {W : World} {b off : Nat} {T : List RB} (h : At W b off (rowsT T)) (hl : ∀ t ∈ T, t.1.length = 32) {i : Nat} {t : RB} (ht : T[i]? = some t) : At W b (off + i * 34) (rbC t) := by
  intro j v hj
  have hj34 : j < 34 := by
    have := (List.getElem?_eq_some_iff.1 hj).1
    rw [rbC_len (hl t (List.mem_of_getElem? ht))] at this; exact this
  rw [Nat.add_assoc]
  exact h _ _ ((rowsT_at T hl i j t ht hj34).trans hj)
theorem rbC_fst {t : RB} (h : t.1.length = 32) : (rbC t).take 32 = u8s t.1 := by rw [rbC, List.take_append_of_le_length (by simp [u8s, h]), List.take_of_length_le (by simp [u8s, h])]
theorem rbC_32 {t : RB} (h : t.1.length = 32) : (rbC t)[32]? = some t.2.1 := by
  have h : (u8s t.1).length = 32 := by simp [u8s, h]
  rw [rbC, List.getElem?_append_right (by omega), h]
  rfl
theorem rbC_33 {t : RB} (h : t.1.length = 32) : (rbC t)[33]? = some (.int .i64 (t.2.2 : Nat)) := by
  have h : (u8s t.1).length = 32 := by simp [u8s, h]
  rw [rbC, List.getElem?_append_right (by omega), h]
  rfl
/-- The document's Store at br, with its own blocks R and the bytes in D, stands for s. -/
def RRep (br : Nat) (s : AS) (D R : List (Nat × Obj)) : Prop :=
  ∃ v Lv T, R = (br, blk 70 (rsC s.k s.cap s.last v s.gets s.puts)) :: Lv ∧ OwnSl 76 34 v s.X.length (rowsT T) Lv ∧ RView D T s.X
theorem RRep.mono {br : Nat} {s : AS} {D D' R : List (Nat × Obj)} (h : RRep br s D R) (hD : ∀ p ∈ D, p ∈ D') : RRep br s D' R := by
  obtain ⟨v, Lv, T, h1, h2, h3⟩ := h
  exact ⟨v, Lv, T, h1, h2, h3.mono hD⟩
/-- What a proof about one method has of it. -/
structure ROpen (br : Nat) (s : AS) (D R : List (Nat × Obj)) (w : World) (a : Option Addr) (c : Nat) (Lv : List (Nat × Obj)) (T : List RB) : Prop where
  eqR : R = (br, blk 70 (rsC s.k s.cap s.last (.slice a s.X.length c) s.gets s.puts)) :: Lv
  own : OwnSl 76 34 (.slice a s.X.length c) s.X.length (rowsT T) Lv
  view : RView D T s.X
  hb : w.heap[br]? = some (blk 70 (rsC s.k s.cap s.last (.slice a s.X.length c) s.gets s.puts))
  out : ∀ p ∈ D, p.1 ∉ R.map (·.1)
  dat : ∀ p ∈ D, w.heap[p.1]? = some p.2
  len : ∀ t ∈ T, t.1.length = 32
  rows : s.X = [] ∨ ∃ b, a = some ⟨b, 0, none⟩ ∧ At w b 0 (rowsT T)
theorem RRep.open {br : Nat} {s : AS} {D R : List (Nat × Obj)} {w : World} (h : RRep br s D R) (ok : s.Ok) (hw : Lives (R ++ D) w) : ∃ a c Lv T, ROpen br s D R w a c Lv T := by
  obtain ⟨v, Lv, T, rfl, h2, h3⟩ := h
  have hn := Step.nodup hw
  rw [List.map_append, List.nodup_append] at hn
  have hobt := h2.form
  obtain ⟨a, c, rfl⟩ := hobt
  refine ⟨a, c, Lv, T, rfl, h2, h3, hw.has (br, blk 70 (rsC s.k s.cap s.last (.slice a s.X.length c) s.gets s.puts)) (by simp), fun p hp hb => hn.2.2 p.1 hb p.1 (List.mem_map_of_mem hp) rfl, fun p hp => hw.has _ (by simp [hp]), h3.len32 ok.len, ?_⟩
  obtain ⟨hl, ⟨h4, h5, h6⟩ | ⟨b, cap, more, h4, h5, h6⟩⟩ := h2
  · exact .inl (List.eq_nil_of_length_eq_zero h5)
  · have hobt := Value.slice.inj h4
    obtain ⟨rfl, -, rfl⟩ := hobt
    refine .inr ⟨b, rfl, ?_⟩
    have : w.heap[b]? = some (blk 76 (rowsT T ++ more)) := hw.has (b, blk 76 (rowsT T ++ more)) (by simp [h5])
    exact (At.of_blk this).left
section
variable {br : Nat} {s : AS} {D R Lv : List (Nat × Obj)} {w0 : World} {d y : List UInt8} {v : Value} {a : Option Addr} {c : Nat} {T : List RB}
theorem ROpen.row (o : ROpen br s D R w0 a c Lv T) {i : Nat} {b : Blb} (hb : s.X[i]? = some b) : ∃ bv v, a = some ⟨bv, 0, none⟩ ∧ Held D v b.x ∧ At w0 bv (0 + i * 34) (rbC (b.d, v, b.st)) := by
  rcases o.rows with h | ⟨bv, h1, h2⟩
  · rw [h] at hb; simp at hb
  · have hobt := o.view.at hb
    obtain ⟨t, ht, h3, h4, h5⟩ := hobt
    obtain ⟨td, tv, ts⟩ := t
    simp only at h3 h4 h5
    subst h3 h4
    exact ⟨bv, tv, h1, h5, h2.rowT o.len ht⟩
theorem ROpen.step {w : World} (o : ROpen br s D R w0 a c Lv T) (h : Step [] [] w0 w) : ROpen br s D R w a c Lv T :=
  ⟨o.eqR, o.own, o.view, h.old o.hb (by simp), o.out, fun p hp => h.old (o.dat p hp) (by simp), o.len, by
    rcases o.rows with h1 | ⟨b, h1, h2⟩
    · exact .inl h1
    · exact .inr ⟨b, h1, h2.step h (by simp)⟩⟩
theorem place_spec (o : ROpen br s D R w0 a c Lv T) (ok : s.Ok) (hd : d.length = 32) : Calls Try.prog 80 #[.pointer (some ⟨br, 0, none⟩), .agg (u8s d).toArray] w0 (Ret0 (.tuple #[.int .i64 (posX d s.X : Nat), .bool (s.has d)]) w0) := by
  have hs : Step [] [] w0 w0 := Step.refl w0
  have hat : At w0 br 0 (rsC s.k s.cap s.last (.slice a s.X.length c) s.gets s.puts) := At.of_blk o.hb
  have hdl : (u8s d).length = 32 := by rw [u8s, List.length_map, hd]
  have hple := posX_le d s.X
  have hpf := pos_find (d := d) ok.sorted
  have hsmall := used_len s.X
  have huse := ok.used
  have hhas : s.has d = (findX d s.X).isSome := rfl
  refine calls (n := 48) Try.func80 rfl rfl rfl ?_
  refine CW.seq ?_
  refine CW.reg ?_
  refine WL.box (cs := u8s d) rfl rfl rfl hs (fun b3 w hs => ?_)
  refine WL.val rfl (run_assign) ?_
  refine WL.val rfl (run_assign) ?_
  refine WL.nil ?_
  refine CW.seq ?_
  refine CW.reg ?_
  refine WL.val rfl (run_assign) ?_
  refine WL.nil ?_
  repeat (first | refine CW.seq ?_ | refine CW.block ?_)
  refine CW.loop (fun m f w' => ∃ i, i ≤ s.X.length ∧ m = s.X.length - i ∧ (∀ j b, j < i → s.X[j]? = some b → ltD b.d d = true) ∧ Step [] [(b3, blk 27 (u8s d))] w0 w' ∧ Holds f [(0, .pointer (some ⟨br, 0, none⟩)), (3, .pointer (some ⟨b3, 0, none⟩)), (6, .int .i64 (i : Nat))]) (m := s.X.length) ?_ ?_
  · exact ⟨0, Nat.zero_le _, rfl, fun j b hj => by omega, hs, rfl, rfl, rfl, trivial⟩
  · rintro m f w ⟨i, hi, rfl, hless, hs, hf⟩
    have hobt := hf.chain
    obtain ⟨g, rfl⟩ := hobt
    have hpd := posX_drop d s.X i hi hless
    by_cases hlt : i < s.X.length
    · have hobt : ∃ b, s.X[i]? = some b := ⟨_, List.getElem?_eq_getElem hlt⟩
      obtain ⟨b, hb⟩ := hobt
      have hobt := o.row hb
      obtain ⟨bv, v, rfl, hv, hrow⟩ := hobt
      have hbl := ok.len b (List.mem_of_getElem? hb)
      have hbdl : (u8s b.d).length = 32 := by rw [u8s, List.length_map, hbl]
      have hless1 := fun w => rless_spec hbl hd w
      have hrd : At w0 bv (0 + i * 34 + 0) (u8s b.d) := by have h := hrow.take 32; rw [rbC_fst hbl] at h; exact h
      cases hltd : ltD b.d d
      · rw [hltd] at hless1
        have hpi : posX d s.X = i := by rw [hpd, posX_at hb hltd]; omega
        rw [hpi, hb, Option.bind_some] at hpf
        refine CW.seq <| CW.seq ?_
        refine CW.quiet mixedP (by kernel_rfl) hs ?_
        refine QL.val rfl (fun w hs => run_move) ?_
        refine QL.val rfl (fun w hs => run_move) ?_
        refine QL.val rfl (fun w hs => run_nilCheck rfl) ?_
        refine QL.val rfl (fun w hs => run_field (o' := 3) Try.underlying70 rfl ty68 rfl rfl rfl) ?_
        refine QL.val rfl (fun w hs => run_load1 ty68 rfl ((hat.step hs.clear (by simp)).cell (j := 3) rfl)) ?_
        refine QL.val rfl (fun w hs => run_lenSl Try.underlying68 rfl) ?_
        refine QL.val rfl (fun w hs => run_bT (run_lss rfl rfl) (by omega)) ?_
        refine QL.val rfl (fun w hs => run_move) ?_
        refine QL.yes rfl rfl rfl ?_; refine QL.val rfl (fun w hs => run_move) ?_
        refine QL.yes rfl rfl rfl ?_; refine QL.val rfl (fun w hs => run_nilCheck rfl) ?_
        refine QL.yes rfl rfl rfl ?_; refine QL.val rfl (fun w hs => run_field (o' := 3) Try.underlying70 rfl ty68 rfl rfl rfl) ?_
        refine QL.yes rfl rfl rfl ?_
        refine QL.val rfl (fun w hs => run_load1 ty68 rfl ((hat.step hs.clear (by simp)).cell (j := 3) rfl)) ?_
        refine QL.yes rfl rfl rfl ?_; refine QL.val rfl (fun w hs => run_move) ?_
        refine QL.yes rfl rfl rfl ?_; (first | refine QL.val rfl (fun w hs => run_ixSlN Try.underlying68 ty76 rfl rfl (by omega)) ?_ | refine QL.val rfl (fun w hs => run_ixSl Try.underlying68 ty76 rfl rfl (by omega)) ?_)
        refine QL.yes rfl rfl rfl ?_; refine QL.val rfl (fun w hs => run_field (o' := 0) Try.underlying76 rfl ty27 rfl rfl rfl) ?_
        refine QL.yes rfl rfl rfl ?_
        refine QL.val rfl (fun w hs => run_loadN ty27 rfl hbdl (hrd.step hs.clear (by simp))) ?_
        refine QL.yes rfl rfl rfl ?_
        refine QL.val rfl (fun w hs => run_loadN ty27 rfl hdl hs.a0) ?_
        refine QL.yes rfl rfl rfl ?_
        refine QL.enter rfl (fun w => run_call en101 rfl rfl) (fun w hs => hless1 _) ?_
        refine QL.val rfl (fun w hs => run_pickT rfl) ?_
        refine QL.nil (fun w hs => ?_)
        refine CW.cond rfl (fun h => ?_) (fun h => ?_)
        · cases h
        have e : decide (b.d = d) = s.has d := by
          rw [hhas, ← hpf]
          by_cases h : b.d = d <;> simp [h]
        repeat (first | refine CW.seq ?_ | refine CW.exit ?_)
        refine CW.quiet mixedP (by kernel_rfl) hs ?_
        refine QL.val rfl (fun w hs => run_move) ?_
        refine QL.val rfl (fun w hs => run_move) ?_
        refine QL.val rfl (fun w hs => run_move) ?_
        refine QL.val rfl (fun w hs => run_nilCheck rfl) ?_
        refine QL.val rfl (fun w hs => run_field (o' := 3) Try.underlying70 rfl ty68 rfl rfl rfl) ?_
        refine QL.val rfl (fun w hs => run_load1 ty68 rfl ((hat.step hs.clear (by simp)).cell (j := 3) rfl)) ?_
        refine QL.val rfl (fun w hs => run_lenSl Try.underlying68 rfl) ?_
        refine QL.val rfl (fun w hs => run_bT (run_lss rfl rfl) (by omega)) ?_
        refine QL.val rfl (fun w hs => run_move) ?_
        refine QL.yes rfl rfl rfl ?_; refine QL.val rfl (fun w hs => run_move) ?_
        refine QL.yes rfl rfl rfl ?_; refine QL.val rfl (fun w hs => run_nilCheck rfl) ?_
        refine QL.yes rfl rfl rfl ?_; refine QL.val rfl (fun w hs => run_field (o' := 3) Try.underlying70 rfl ty68 rfl rfl rfl) ?_
        refine QL.yes rfl rfl rfl ?_
        refine QL.val rfl (fun w hs => run_load1 ty68 rfl ((hat.step hs.clear (by simp)).cell (j := 3) rfl)) ?_
        refine QL.yes rfl rfl rfl ?_; refine QL.val rfl (fun w hs => run_move) ?_
        refine QL.yes rfl rfl rfl ?_; (first | refine QL.val rfl (fun w hs => run_ixSlN Try.underlying68 ty76 rfl rfl (by omega)) ?_ | refine QL.val rfl (fun w hs => run_ixSl Try.underlying68 ty76 rfl rfl (by omega)) ?_)
        refine QL.yes rfl rfl rfl ?_; refine QL.val rfl (fun w hs => run_field (o' := 0) Try.underlying76 rfl ty27 rfl rfl rfl) ?_
        refine QL.yes rfl rfl rfl ?_
        refine QL.val rfl (fun w hs => run_loadN ty27 rfl hbdl (hrd.step hs.clear (by simp))) ?_
        refine QL.yes rfl rfl rfl ?_
        refine QL.val rfl (fun w hs => run_loadN ty27 rfl hdl hs.a0) ?_
        refine QL.yes rfl rfl rfl ?_
        refine QL.val rfl (fun w hs => run_eqDig hbl hd rfl rfl) ?_
        refine QL.val rfl (fun w hs => run_pickT rfl) ?_
        refine QL.val rfl (fun w hs => run_assign) ?_
        refine QL.val rfl (fun w hs => run_assign) ?_
        refine QL.nil (fun w hs => ?_)
        refine CW.ret ?_
        refine fin_ret2 rfl ?_
        have e2 : (Value.tuple #[.int .i64 (i : Nat), .bool (decide (b.d = d))]) = .tuple #[.int .i64 (posX d s.X : Nat), .bool (s.has d)] := by rw [e, hpi]
        exact ⟨congrArg Ending.returned e2, hs.clear⟩
      · rw [hltd] at hless1
        refine CW.seq <| CW.seq ?_
        refine CW.quiet mixedP (by kernel_rfl) hs ?_
        refine QL.val rfl (fun w hs => run_move) ?_
        refine QL.val rfl (fun w hs => run_move) ?_
        refine QL.val rfl (fun w hs => run_nilCheck rfl) ?_
        refine QL.val rfl (fun w hs => run_field (o' := 3) Try.underlying70 rfl ty68 rfl rfl rfl) ?_
        refine QL.val rfl (fun w hs => run_load1 ty68 rfl ((hat.step hs.clear (by simp)).cell (j := 3) rfl)) ?_
        refine QL.val rfl (fun w hs => run_lenSl Try.underlying68 rfl) ?_
        refine QL.val rfl (fun w hs => run_bT (run_lss rfl rfl) (by omega)) ?_
        refine QL.val rfl (fun w hs => run_move) ?_
        refine QL.yes rfl rfl rfl ?_; refine QL.val rfl (fun w hs => run_move) ?_
        refine QL.yes rfl rfl rfl ?_; refine QL.val rfl (fun w hs => run_nilCheck rfl) ?_
        refine QL.yes rfl rfl rfl ?_; refine QL.val rfl (fun w hs => run_field (o' := 3) Try.underlying70 rfl ty68 rfl rfl rfl) ?_
        refine QL.yes rfl rfl rfl ?_
        refine QL.val rfl (fun w hs => run_load1 ty68 rfl ((hat.step hs.clear (by simp)).cell (j := 3) rfl)) ?_
        refine QL.yes rfl rfl rfl ?_; refine QL.val rfl (fun w hs => run_move) ?_
        refine QL.yes rfl rfl rfl ?_; (first | refine QL.val rfl (fun w hs => run_ixSlN Try.underlying68 ty76 rfl rfl (by omega)) ?_ | refine QL.val rfl (fun w hs => run_ixSl Try.underlying68 ty76 rfl rfl (by omega)) ?_)
        refine QL.yes rfl rfl rfl ?_; refine QL.val rfl (fun w hs => run_field (o' := 0) Try.underlying76 rfl ty27 rfl rfl rfl) ?_
        refine QL.yes rfl rfl rfl ?_
        refine QL.val rfl (fun w hs => run_loadN ty27 rfl hbdl (hrd.step hs.clear (by simp))) ?_
        refine QL.yes rfl rfl rfl ?_
        refine QL.val rfl (fun w hs => run_loadN ty27 rfl hdl hs.a0) ?_
        refine QL.yes rfl rfl rfl ?_
        refine QL.enter rfl (fun w => run_call en101 rfl rfl) (fun w hs => hless1 _) ?_
        refine QL.val rfl (fun w hs => run_pickT rfl) ?_
        refine QL.nil (fun w hs => ?_)
        refine CW.cond rfl (fun h => ?_) (fun h => ?_)
        · repeat (first | refine CW.block ?_ | refine CW.skip ?_)
          refine CW.reg ?_
          refine WL.val rfl (run_move) ?_
          refine WL.val rfl (run_add (c := ((i + 1 : Nat) : Int)) rfl rfl (by omega) (by omega)) ?_
          refine WL.val rfl (run_assign) ?_
          refine WL.nil ?_
          refine (show _ ∧ _ from ⟨rfl, _, ?_, i + 1, hlt, rfl, ?_, hs, rfl, rfl, rfl, trivial⟩)
          · omega
          · intro j e hj he
            by_cases hji : j = i
            · subst hji; rw [hb] at he; obtain rfl := Option.some.inj he; exact hltd
            · exact hless j e (by omega) he
        · cases h
    · obtain rfl : i = s.X.length := by omega
      have hpi : posX d s.X = s.X.length := by rw [hpd]; simp [posX]
      rw [hpi, List.getElem?_eq_none (Nat.le_refl _)] at hpf
      have e : false = s.has d := by rw [hhas, ← hpf]; rfl
      refine CW.seq <| CW.seq ?_
      refine CW.quiet mixedP (by kernel_rfl) hs ?_
      refine QL.val rfl (fun w hs => run_move) ?_
      refine QL.val rfl (fun w hs => run_move) ?_
      refine QL.val rfl (fun w hs => run_nilCheck rfl) ?_
      refine QL.val rfl (fun w hs => run_field (o' := 3) Try.underlying70 rfl ty68 rfl rfl rfl) ?_
      refine QL.val rfl (fun w hs => run_load1 ty68 rfl ((hat.step hs.clear (by simp)).cell (j := 3) rfl)) ?_
      refine QL.val rfl (fun w hs => run_lenSl Try.underlying68 rfl) ?_
      refine QL.val rfl (fun w hs => run_bF (run_lss rfl rfl) (by omega)) ?_
      refine QL.val rfl (fun w hs => run_move) ?_
      refine QL.no rfl rfl rfl (.inl rfl) ?_
      refine QL.no rfl rfl rfl (.inl rfl) ?_
      refine QL.no rfl rfl rfl (.inl rfl) ?_
      refine QL.no rfl rfl rfl (.inl rfl) ?_
      refine QL.no rfl rfl rfl (.inl rfl) ?_
      refine QL.no rfl rfl rfl (.inl rfl) ?_
      refine QL.no rfl rfl rfl (.inl rfl) ?_
      refine QL.no rfl rfl rfl (.inl rfl) ?_
      refine QL.no rfl rfl rfl (.inl rfl) ?_
      refine QL.no rfl rfl rfl (.inl rfl) ?_
      refine QL.val rfl (fun w hs => run_pickF rfl) ?_
      refine QL.nil (fun w hs => ?_)
      refine CW.cond rfl (fun h => ?_) (fun h => ?_)
      · cases h
      repeat (first | refine CW.seq ?_ | refine CW.exit ?_)
      refine CW.quiet mixedP (by kernel_rfl) hs ?_
      refine QL.val rfl (fun w hs => run_move) ?_
      refine QL.val rfl (fun w hs => run_move) ?_
      refine QL.val rfl (fun w hs => run_move) ?_
      refine QL.val rfl (fun w hs => run_nilCheck rfl) ?_
      refine QL.val rfl (fun w hs => run_field (o' := 3) Try.underlying70 rfl ty68 rfl rfl rfl) ?_
      refine QL.val rfl (fun w hs => run_load1 ty68 rfl ((hat.step hs.clear (by simp)).cell (j := 3) rfl)) ?_
      refine QL.val rfl (fun w hs => run_lenSl Try.underlying68 rfl) ?_
      refine QL.val rfl (fun w hs => run_bF (run_lss rfl rfl) (by omega)) ?_
      refine QL.val rfl (fun w hs => run_move) ?_
      refine QL.no rfl rfl rfl (.inl rfl) ?_
      refine QL.no rfl rfl rfl (.inl rfl) ?_
      refine QL.no rfl rfl rfl (.inl rfl) ?_
      refine QL.no rfl rfl rfl (.inl rfl) ?_
      refine QL.no rfl rfl rfl (.inl rfl) ?_
      refine QL.no rfl rfl rfl (.inl rfl) ?_
      refine QL.no rfl rfl rfl (.inl rfl) ?_
      refine QL.no rfl rfl rfl (.inl rfl) ?_
      refine QL.no rfl rfl rfl (.inl rfl) ?_
      refine QL.no rfl rfl rfl (.inl rfl) ?_
      refine QL.val rfl (fun w hs => run_pickF rfl) ?_
      refine QL.val rfl (fun w hs => run_assign) ?_
      refine QL.val rfl (fun w hs => run_assign) ?_
      refine QL.nil (fun w hs => ?_)
      refine CW.ret ?_
      refine fin_ret2 rfl ?_
      have e2 : (Value.tuple #[.int .i64 (s.X.length : Nat), .bool false]) = .tuple #[.int .i64 (posX d s.X : Nat), .bool (s.has d)] := by rw [e, hpi]
      exact ⟨congrArg Ending.returned e2, hs.clear⟩
end
end Go.Gx
