/- Files in memory: may a file be opened? -/
import Derived.Test.YtepaojbhjgefiaaDoorVs11
namespace Go.Gx
open Go.Proofs
set_option linter.unusedVariables false
set_option linter.unusedSimpArgs false
set_option maxRecDepth 100000
def VS.below (s : VS) (p : List UInt8) : Nat := match s.dir p with
  | none => 0
  | some j => ((s.D[j]?).map (·.2)).getD 0
/-- Where a new path begins. -/
def firstL (p : List UInt8) (miss : List (List UInt8)) : List UInt8 := (miss.head?).getD p
def VS.mayO (s : VS) (p : List UInt8) (x : Option Nat) (mode : Int) (miss : List (List UInt8)) : Int :=
  if (s.dir p).isSome then 92 else if x = none ∧ mode = 0 then 91 else if x = none ∧ (s.qf < (s.items : Int) + miss.length + 1 ∨ 1024 ≤ s.below (splitR (firstL p miss)).1) then 97 else if s.qo ≤ (s.op : Int) then 98 else 0
section
variable {bf mf md : Nat} {s : VS} {L Lh : List (Nat × Obj)} {vh : Value} {Fs : List FB} {Ds : List DB} {Hs : List (Option HB)} {w0 : World}
theorem VOpen.dat (o : VOpen bf s L mf md vh Lh Fs Ds Hs) {w : World} (hw : ∀ p ∈ L, w.heap[p.1]? = some p.2) {i : Nat} {r : DB} (hi : Ds[i]? = some r) : At w r.b 0 [str r.p, .int .i64 (r.n : Nat)] := by
  have hm : (r.b, blk 77 [str r.p, .int .i64 (r.n : Nat)]) ∈ Ds.flatMap DB.own := flat_mem hi (by simp [DB.own])
  exact At.of_blk (hw (r.b, blk 77 [str r.p, .int .i64 (r.n : Nat)]) (by rw [o.L]; simp only [List.mem_cons, List.mem_append]; exact .inr (.inr (.inr (.inr (.inr (.inl hm)))))))
set_option maxHeartbeats 4000000 in
theorem mayO_spec (o : VOpen bf s L mf md vh Lh Fs Ds Hs) (ok : s.Ok) (hg : Gl w0) (hw : ∀ p ∈ L, w0.heap[p.1]? = some p.2) {p : List UInt8} {x : Option Nat} {mode : Int} {miss : List (List UInt8)} {vm : Value} (hm : Sl w0 1 vm miss.length (strs miss)) (hml : miss.length ≤ 100000) (hfl : (firstL p miss).length ≤ 9223372036854775807) (hx : ∀ i, x = some i → i < Fs.length) (hup : x = none → (s.dir (splitR (firstL p miss)).1).isSome) : Calls Tryd.prog 31 #[.pointer (some ⟨bf, 0, none⟩), str p, fVal Fs x, .int .i64 mode, vm] w0 (Ret0 (.int .i64 (s.mayO p x mode miss)) w0) := by
  have hs : Step [] [] w0 w0 := Step.refl w0
  have hat := fun {w} hw => o.at (w := w) hw
  have hlw : ∀ {L' w}, Step [] L' w0 w → ∀ p ∈ L, w.heap[p.1]? = some p.2 := fun hs p hp => hs.old (hw p hp) (by simp)
  have hobt := hm.form
  obtain ⟨am, cm, rfl⟩ := hobt
  have hvD := o.lookD p
  have hqo := ok.qo
  have hqf := ok.qf
  have hop := ok.op
  by_cases hd : (s.dir p).isSome
  · have hobt := Option.isSome_iff_exists.1 hd
    obtain ⟨j, hj⟩ := hobt
    have hobt := o.dir_at hj
    obtain ⟨r, _, _, hv⟩ := hobt
    rw [hv] at hvD
    rw [show s.mayO p x mode miss = 92 by unfold VS.mayO; rw [if_pos hd]]
    refine calls (n := 79) Tryd.func31 rfl rfl rfl ?_
    repeat (first | refine CW.seq ?_ | refine CW.block ?_ | refine CW.skip ?_ | refine CW.label ?_ | refine CW.exit ?_ | refine CW.condT rfl ?_ | refine CW.condF rfl ?_)
    refine CW.reg ?_
    refine WL.val rfl (run_assign) ?_
    refine WL.nil ?_
    repeat (first | refine CW.seq ?_ | refine CW.block ?_ | refine CW.skip ?_ | refine CW.label ?_ | refine CW.exit ?_ | refine CW.condT rfl ?_ | refine CW.condF rfl ?_)
    refine CW.reg ?_
    refine WL.val rfl (run_move) ?_
    refine WL.val rfl (run_nilCheck rfl) ?_
    refine WL.val rfl (run_field (o' := 1) Tryd.underlying81 rfl ty78 rfl rfl rfl) ?_
    refine WL.val rfl (run_load1 ty78 rfl ((hat (hlw hs)).cell (j := 1) rfl)) ?_
    refine WL.val rfl (run_move) ?_
    refine WL.val rfl (run_lookupSE Tryd.underlying78 Tryd.underlying9 (zDir _) (hvD) rfl rfl (o.md_ (hlw hs))) ?_
    refine WL.val rfl (run_ptrNilNe Tryd.underlying73 rfl rfl) ?_
    refine WL.val rfl (run_assign) ?_
    refine WL.nil ?_
    repeat (first | refine CW.seq ?_ | refine CW.block ?_ | refine CW.skip ?_ | refine CW.label ?_ | refine CW.exit ?_)
    first | refine CW.condP rfl (fun h => ?_) (fun h => ?_) | refine CW.cond rfl (fun h => ?_) (fun h => ?_)
    · repeat (first | refine CW.seq ?_ | refine CW.block ?_ | refine CW.skip ?_ | refine CW.label ?_ | refine CW.exit ?_ | refine CW.condT rfl ?_ | refine CW.condF rfl ?_)
      refine CW.reg ?_
      refine WL.val rfl (run_assign) ?_
      refine WL.nil ?_
      repeat (first | refine CW.seq ?_ | refine CW.block ?_ | refine CW.skip ?_ | refine CW.label ?_ | refine CW.exit ?_ | refine CW.condT rfl ?_ | refine CW.condF rfl ?_)
      refine CW.ret ?_
      refine fin_ret1 rfl ?_
      exact ⟨rfl, hs⟩
    · cases h
  have hdn : s.dir p = none := by
    cases h : s.dir p with
    | none => rfl
    | some j => rw [h] at hd; exact absurd rfl hd
  rw [hdn] at hvD
  cases x with
  | some i =>
    have hil := hx i rfl
    have hfv : fVal Fs (some i) = .pointer (some ⟨(Fs[i]'hil).b, 0, none⟩) := by simp [fVal, hil]
    rw [hfv]
    rw [show s.mayO p (some i) mode miss = if s.qo ≤ (s.op : Int) then 98 else 0 by unfold VS.mayO; rw [if_neg hd, if_neg (by simp), if_neg (by simp)]]
    have hobt : ∃ res : Int, (if s.qo ≤ (s.op : Int) then (98 : Int) else 0) = res := ⟨_, rfl⟩
    obtain ⟨res, hfin⟩ := hobt
    rw [hfin]
    refine calls (n := 79) Tryd.func31 rfl rfl rfl ?_
    repeat (first | refine CW.seq ?_ | refine CW.block ?_ | refine CW.skip ?_ | refine CW.label ?_ | refine CW.exit ?_ | refine CW.condT rfl ?_ | refine CW.condF rfl ?_)
    refine CW.reg ?_
    refine WL.val rfl (run_assign) ?_
    refine WL.nil ?_
    repeat (first | refine CW.seq ?_ | refine CW.block ?_ | refine CW.skip ?_ | refine CW.label ?_ | refine CW.exit ?_ | refine CW.condT rfl ?_ | refine CW.condF rfl ?_)
    refine CW.reg ?_
    refine WL.val rfl (run_move) ?_
    refine WL.val rfl (run_nilCheck rfl) ?_
    refine WL.val rfl (run_field (o' := 1) Tryd.underlying81 rfl ty78 rfl rfl rfl) ?_
    refine WL.val rfl (run_load1 ty78 rfl ((hat (hlw hs)).cell (j := 1) rfl)) ?_
    refine WL.val rfl (run_move) ?_
    refine WL.val rfl (run_lookupSE Tryd.underlying78 Tryd.underlying9 (zDir _) (hvD) rfl rfl (o.md_ (hlw hs))) ?_
    refine WL.val rfl (run_nilNe Tryd.underlying73 rfl rfl) ?_
    refine WL.val rfl (run_assign) ?_
    refine WL.nil ?_
    repeat (first | refine CW.seq ?_ | refine CW.block ?_ | refine CW.skip ?_ | refine CW.label ?_ | refine CW.exit ?_)
    first | refine CW.condP rfl (fun h => ?_) (fun h => ?_) | refine CW.cond rfl (fun h => ?_) (fun h => ?_)
    · cases h
    repeat (first | refine CW.seq ?_ | refine CW.block ?_ | refine CW.skip ?_ | refine CW.label ?_ | refine CW.exit ?_ | refine CW.condT rfl ?_ | refine CW.condF rfl ?_)
    refine CW.reg ?_
    refine WL.val rfl (run_move) ?_
    refine WL.val rfl (run_ptrNil Tryd.underlying86 rfl rfl) ?_
    refine WL.val rfl (run_move) ?_
    first | (refine WL.yes rfl rfl rfl ?_; refine WL.val rfl (run_move) ?_) | refine WL.no rfl rfl rfl (.inl rfl) ?_ | refine WL.no rfl rfl rfl (.inr rfl) ?_
    first | (refine WL.yes rfl rfl rfl ?_; refine WL.val rfl (run_eql rfl rfl) ?_) | refine WL.no rfl rfl rfl (.inl rfl) ?_ | refine WL.no rfl rfl rfl (.inr rfl) ?_
    first | refine WL.val rfl (run_pickT rfl) ?_ | refine WL.val rfl (run_pickF rfl) ?_
    refine WL.val rfl (run_assign) ?_
    refine WL.nil ?_
    repeat (first | refine CW.seq ?_ | refine CW.block ?_ | refine CW.skip ?_ | refine CW.label ?_ | refine CW.exit ?_)
    first | refine CW.condP rfl (fun h => ?_) (fun h => ?_) | refine CW.cond rfl (fun h => ?_) (fun h => ?_)
    · cases h
    repeat (first | refine CW.seq ?_ | refine CW.block ?_ | refine CW.skip ?_ | refine CW.label ?_ | refine CW.exit ?_ | refine CW.condT rfl ?_ | refine CW.condF rfl ?_)
    refine CW.reg ?_
    refine WL.val rfl (run_move) ?_
    refine WL.val rfl (run_ptrNil Tryd.underlying86 rfl rfl) ?_
    refine WL.nil ?_
    repeat (first | refine CW.seq ?_ | refine CW.block ?_ | refine CW.skip ?_ | refine CW.label ?_ | refine CW.exit ?_)
    first | refine CW.condP rfl (fun h => ?_) (fun h => ?_) | refine CW.cond rfl (fun h => ?_) (fun h => ?_)
    · cases h
    by_cases ho : s.qo ≤ (s.op : Int)
    · have e : (98 : Int) = res := by rw [← hfin, if_pos ho]
      repeat (first | refine CW.seq ?_ | refine CW.block ?_ | refine CW.skip ?_ | refine CW.label ?_ | refine CW.exit ?_ | refine CW.condT rfl ?_ | refine CW.condF rfl ?_)
      refine CW.quiet mixedP (by kernel_rfl) hs ?_
      refine QL.val rfl (fun w hs => run_move) ?_
      refine QL.val rfl (fun w hs => run_nilCheck rfl) ?_
      refine QL.val rfl (fun w hs => run_field (o' := 7) Tryd.underlying81 rfl ty3 rfl rfl rfl) ?_
      refine QL.val rfl (fun w hs => run_load1 ty3 rfl ((hat (hlw hs)).cell (j := 7) rfl)) ?_
      refine QL.val rfl (fun w hs => run_move) ?_
      refine QL.val rfl (fun w hs => run_nilCheck rfl) ?_
      refine QL.val rfl (fun w hs => run_field (o' := 3) Tryd.underlying81 rfl ty30 rfl rfl rfl) ?_
      refine QL.val rfl (fun w hs => run_field (o' := 2) Tryd.underlying30 rfl ty3 rfl rfl rfl) ?_
      refine QL.val rfl (fun w hs => run_load1 ty3 rfl ((hat (hlw hs)).cell (j := 5) rfl)) ?_
      refine QL.val rfl (fun w hs => run_bT (run_geq rfl rfl) (by omega)) ?_
      refine QL.nil (fun w hs => ?_)
      repeat (first | refine CW.seq ?_ | refine CW.block ?_ | refine CW.skip ?_ | refine CW.label ?_ | refine CW.exit ?_)
      first | refine CW.condP rfl (fun h => ?_) (fun h => ?_) | refine CW.cond rfl (fun h => ?_) (fun h => ?_)
      · repeat (first | refine CW.seq ?_ | refine CW.block ?_ | refine CW.skip ?_ | refine CW.label ?_ | refine CW.exit ?_ | refine CW.condT rfl ?_ | refine CW.condF rfl ?_)
        refine CW.reg ?_
        refine WL.val rfl (run_assign) ?_
        refine WL.nil ?_
        repeat (first | refine CW.seq ?_ | refine CW.block ?_ | refine CW.skip ?_ | refine CW.label ?_ | refine CW.exit ?_ | refine CW.condT rfl ?_ | refine CW.condF rfl ?_)
        refine CW.ret ?_
        refine fin_ret1 rfl ?_
        exact ⟨congrArg (fun b => Ending.returned (.int .i64 b)) e, hs⟩
      · cases h
    · have e : (0 : Int) = res := by rw [← hfin, if_neg ho]
      repeat (first | refine CW.seq ?_ | refine CW.block ?_ | refine CW.skip ?_ | refine CW.label ?_ | refine CW.exit ?_ | refine CW.condT rfl ?_ | refine CW.condF rfl ?_)
      refine CW.quiet mixedP (by kernel_rfl) hs ?_
      refine QL.val rfl (fun w hs => run_move) ?_
      refine QL.val rfl (fun w hs => run_nilCheck rfl) ?_
      refine QL.val rfl (fun w hs => run_field (o' := 7) Tryd.underlying81 rfl ty3 rfl rfl rfl) ?_
      refine QL.val rfl (fun w hs => run_load1 ty3 rfl ((hat (hlw hs)).cell (j := 7) rfl)) ?_
      refine QL.val rfl (fun w hs => run_move) ?_
      refine QL.val rfl (fun w hs => run_nilCheck rfl) ?_
      refine QL.val rfl (fun w hs => run_field (o' := 3) Tryd.underlying81 rfl ty30 rfl rfl rfl) ?_
      refine QL.val rfl (fun w hs => run_field (o' := 2) Tryd.underlying30 rfl ty3 rfl rfl rfl) ?_
      refine QL.val rfl (fun w hs => run_load1 ty3 rfl ((hat (hlw hs)).cell (j := 5) rfl)) ?_
      refine QL.val rfl (fun w hs => run_bF (run_geq rfl rfl) (by omega)) ?_
      refine QL.nil (fun w hs => ?_)
      repeat (first | refine CW.seq ?_ | refine CW.block ?_ | refine CW.skip ?_ | refine CW.label ?_ | refine CW.exit ?_)
      first | refine CW.condP rfl (fun h => ?_) (fun h => ?_) | refine CW.cond rfl (fun h => ?_) (fun h => ?_)
      · cases h
      repeat (first | refine CW.seq ?_ | refine CW.block ?_ | refine CW.skip ?_ | refine CW.label ?_ | refine CW.exit ?_ | refine CW.condT rfl ?_ | refine CW.condF rfl ?_)
      refine CW.reg ?_
      refine WL.val rfl (run_assign) ?_
      refine WL.nil ?_
      repeat (first | refine CW.seq ?_ | refine CW.block ?_ | refine CW.skip ?_ | refine CW.label ?_ | refine CW.exit ?_ | refine CW.condT rfl ?_ | refine CW.condF rfl ?_)
      refine CW.ret ?_
      refine fin_ret1 rfl ?_
      exact ⟨congrArg (fun b => Ending.returned (.int .i64 b)) e, hs⟩
  | none =>
    by_cases hm0 : mode = 0
    · rw [show s.mayO p none mode miss = 91 by unfold VS.mayO; rw [if_neg hd, if_pos ⟨rfl, hm0⟩]]
      refine calls (n := 79) Tryd.func31 rfl rfl rfl ?_
      repeat (first | refine CW.seq ?_ | refine CW.block ?_ | refine CW.skip ?_ | refine CW.label ?_ | refine CW.exit ?_ | refine CW.condT rfl ?_ | refine CW.condF rfl ?_)
      refine CW.reg ?_
      refine WL.val rfl (run_assign) ?_
      refine WL.nil ?_
      repeat (first | refine CW.seq ?_ | refine CW.block ?_ | refine CW.skip ?_ | refine CW.label ?_ | refine CW.exit ?_ | refine CW.condT rfl ?_ | refine CW.condF rfl ?_)
      refine CW.reg ?_
      refine WL.val rfl (run_move) ?_
      refine WL.val rfl (run_nilCheck rfl) ?_
      refine WL.val rfl (run_field (o' := 1) Tryd.underlying81 rfl ty78 rfl rfl rfl) ?_
      refine WL.val rfl (run_load1 ty78 rfl ((hat (hlw hs)).cell (j := 1) rfl)) ?_
      refine WL.val rfl (run_move) ?_
      refine WL.val rfl (run_lookupSE Tryd.underlying78 Tryd.underlying9 (zDir _) (hvD) rfl rfl (o.md_ (hlw hs))) ?_
      refine WL.val rfl (run_nilNe Tryd.underlying73 rfl rfl) ?_
      refine WL.val rfl (run_assign) ?_
      refine WL.nil ?_
      repeat (first | refine CW.seq ?_ | refine CW.block ?_ | refine CW.skip ?_ | refine CW.label ?_ | refine CW.exit ?_)
      first | refine CW.condP rfl (fun h => ?_) (fun h => ?_) | refine CW.cond rfl (fun h => ?_) (fun h => ?_)
      · cases h
      repeat (first | refine CW.seq ?_ | refine CW.block ?_ | refine CW.skip ?_ | refine CW.label ?_ | refine CW.exit ?_ | refine CW.condT rfl ?_ | refine CW.condF rfl ?_)
      refine CW.reg ?_
      refine WL.val rfl (run_move) ?_
      refine WL.val rfl (run_nilNil Tryd.underlying86 rfl rfl) ?_
      refine WL.val rfl (run_move) ?_
      first | (refine WL.yes rfl rfl rfl ?_; refine WL.val rfl (run_move) ?_) | refine WL.no rfl rfl rfl (.inl rfl) ?_ | refine WL.no rfl rfl rfl (.inr rfl) ?_
      refine WL.yes rfl rfl rfl ?_
      refine WL.val rfl (run_bT (run_eql rfl rfl) (by exact hm0)) ?_
      first | refine WL.val rfl (run_pickT rfl) ?_ | refine WL.val rfl (run_pickF rfl) ?_
      refine WL.val rfl (run_assign) ?_
      refine WL.nil ?_
      repeat (first | refine CW.seq ?_ | refine CW.block ?_ | refine CW.skip ?_ | refine CW.label ?_ | refine CW.exit ?_)
      first | refine CW.condP rfl (fun h => ?_) (fun h => ?_) | refine CW.cond rfl (fun h => ?_) (fun h => ?_)
      · repeat (first | refine CW.seq ?_ | refine CW.block ?_ | refine CW.skip ?_ | refine CW.label ?_ | refine CW.exit ?_ | refine CW.condT rfl ?_ | refine CW.condF rfl ?_)
        refine CW.reg ?_
        refine WL.val rfl (run_assign) ?_
        refine WL.nil ?_
        repeat (first | refine CW.seq ?_ | refine CW.block ?_ | refine CW.skip ?_ | refine CW.label ?_ | refine CW.exit ?_ | refine CW.condT rfl ?_ | refine CW.condF rfl ?_)
        refine CW.ret ?_
        refine fin_ret1 rfl ?_
        exact ⟨rfl, hs⟩
      · cases h
    have hup := hup rfl
    have hobt := Option.isSome_iff_exists.1 hup
    obtain ⟨j, hj⟩ := hobt
    have hobt := o.dir_at hj
    obtain ⟨r, hr, hrp, hv⟩ := hobt
    have hvU := o.lookD (splitR (firstL p miss)).1
    rw [hv] at hvU
    have hbel : s.below (splitR (firstL p miss)).1 = r.n := by
      unfold VS.below
      rw [hj]
      simp only
      rw [← o.D, List.getElem?_map, hr]
      rfl
    have hD : 0 < s.D.length := by
      rw [← o.D, List.length_map]
      have := (List.getElem?_eq_some_iff.1 hr).1
      omega
    have hitm := fun {w} hw => items_spec (w0 := w) o ok hD hw
    have hsp := fun {w} hg => splitP_spec (p := firstL p miss) w hg hfl
    have hmay : s.mayO p none mode miss = if s.qf < (s.items : Int) + miss.length + 1 ∨ 1024 ≤ r.n then 97 else if s.qo ≤ (s.op : Int) then 98 else 0 := by
      unfold VS.mayO
      rw [if_neg hd, if_neg (fun h => hm0 h.2), hbel]
      simp only [true_and]
    have hil : s.items ≤ 200000 := by
      have h1 := ok.f
      have h2 := ok.d
      unfold VS.items
      omega
    rw [hmay]
    clear hmay hup hbel
    have hobt : ∃ ml : Nat, miss.length = ml := ⟨_, rfl⟩
    obtain ⟨ml, eml⟩ := hobt
    have hobt : ∃ fst, firstL p miss = fst := ⟨_, rfl⟩
    obtain ⟨fst, efst⟩ := hobt
    rw [efst] at hsp hvU
    rw [eml] at hml
    simp only [eml]
    have hobt : ∃ res : Int, (if s.qf < (s.items : Int) + ml + 1 ∨ 1024 ≤ r.n then 97 else if s.qo ≤ (s.op : Int) then (98 : Int) else 0) = res := ⟨_, rfl⟩
    obtain ⟨res, hres⟩ := hobt
    rw [hres]
    cases miss with
    | nil =>
      replace efst : p = fst := efst
      subst efst
      replace eml : 0 = ml := eml
      refine calls (n := 79) Tryd.func31 rfl rfl rfl ?_
      repeat (first | refine CW.seq ?_ | refine CW.block ?_ | refine CW.skip ?_ | refine CW.label ?_ | refine CW.exit ?_ | refine CW.condT rfl ?_ | refine CW.condF rfl ?_)
      refine CW.reg ?_
      refine WL.val rfl (run_assign) ?_
      refine WL.nil ?_
      repeat (first | refine CW.seq ?_ | refine CW.block ?_ | refine CW.skip ?_ | refine CW.label ?_ | refine CW.exit ?_ | refine CW.condT rfl ?_ | refine CW.condF rfl ?_)
      refine CW.reg ?_
      refine WL.val rfl (run_move) ?_
      refine WL.val rfl (run_nilCheck rfl) ?_
      refine WL.val rfl (run_field (o' := 1) Tryd.underlying81 rfl ty78 rfl rfl rfl) ?_
      refine WL.val rfl (run_load1 ty78 rfl ((hat (hlw hs)).cell (j := 1) rfl)) ?_
      refine WL.val rfl (run_move) ?_
      refine WL.val rfl (run_lookupSE Tryd.underlying78 Tryd.underlying9 (zDir _) (hvD) rfl rfl (o.md_ (hlw hs))) ?_
      refine WL.val rfl (run_nilNe Tryd.underlying73 rfl rfl) ?_
      refine WL.val rfl (run_assign) ?_
      refine WL.nil ?_
      repeat (first | refine CW.seq ?_ | refine CW.block ?_ | refine CW.skip ?_ | refine CW.label ?_ | refine CW.exit ?_)
      first | refine CW.condP rfl (fun h => ?_) (fun h => ?_) | refine CW.cond rfl (fun h => ?_) (fun h => ?_)
      · cases h
      repeat (first | refine CW.seq ?_ | refine CW.block ?_ | refine CW.skip ?_ | refine CW.label ?_ | refine CW.exit ?_ | refine CW.condT rfl ?_ | refine CW.condF rfl ?_)
      refine CW.reg ?_
      refine WL.val rfl (run_move) ?_
      refine WL.val rfl (run_nilNil Tryd.underlying86 rfl rfl) ?_
      refine WL.val rfl (run_move) ?_
      first | (refine WL.yes rfl rfl rfl ?_; refine WL.val rfl (run_move) ?_) | refine WL.no rfl rfl rfl (.inl rfl) ?_ | refine WL.no rfl rfl rfl (.inr rfl) ?_
      refine WL.yes rfl rfl rfl ?_
      refine WL.val rfl (run_bF (run_eql rfl rfl) (by exact hm0)) ?_
      first | refine WL.val rfl (run_pickT rfl) ?_ | refine WL.val rfl (run_pickF rfl) ?_
      refine WL.val rfl (run_assign) ?_
      refine WL.nil ?_
      repeat (first | refine CW.seq ?_ | refine CW.block ?_ | refine CW.skip ?_ | refine CW.label ?_ | refine CW.exit ?_)
      first | refine CW.condP rfl (fun h => ?_) (fun h => ?_) | refine CW.cond rfl (fun h => ?_) (fun h => ?_)
      · cases h
      repeat (first | refine CW.seq ?_ | refine CW.block ?_ | refine CW.skip ?_ | refine CW.label ?_ | refine CW.exit ?_ | refine CW.condT rfl ?_ | refine CW.condF rfl ?_)
      refine CW.reg ?_
      refine WL.val rfl (run_move) ?_
      refine WL.val rfl (run_nilNil Tryd.underlying86 rfl rfl) ?_
      refine WL.nil ?_
      repeat (first | refine CW.seq ?_ | refine CW.block ?_ | refine CW.skip ?_ | refine CW.label ?_ | refine CW.exit ?_)
      first | refine CW.condP rfl (fun h => ?_) (fun h => ?_) | refine CW.cond rfl (fun h => ?_) (fun h => ?_)
      · repeat (first | refine CW.seq ?_ | refine CW.block ?_ | refine CW.skip ?_ | refine CW.label ?_ | refine CW.exit ?_ | refine CW.condT rfl ?_ | refine CW.condF rfl ?_)
        refine CW.reg ?_
        refine WL.val rfl (run_move) ?_
        refine WL.val rfl (run_assign) ?_
        refine WL.nil ?_
        repeat (first | refine CW.seq ?_ | refine CW.block ?_ | refine CW.skip ?_ | refine CW.label ?_ | refine CW.exit ?_ | refine CW.condT rfl ?_ | refine CW.condF rfl ?_)
        refine CW.reg ?_
        refine WL.val rfl (run_move) ?_
        refine WL.val rfl (run_lenSl Tryd.underlying51 rfl) ?_
        refine WL.val rfl (run_bF (run_gtr rfl rfl) (by omega)) ?_
        refine WL.nil ?_
        repeat (first | refine CW.seq ?_ | refine CW.block ?_ | refine CW.skip ?_ | refine CW.label ?_ | refine CW.exit ?_)
        first | refine CW.condP rfl (fun h => ?_) (fun h => ?_) | refine CW.cond rfl (fun h => ?_) (fun h => ?_)
        · cases h
        repeat (first | refine CW.seq ?_ | refine CW.block ?_ | refine CW.skip ?_ | refine CW.label ?_ | refine CW.exit ?_ | refine CW.condT rfl ?_ | refine CW.condF rfl ?_)
        refine CW.reg ?_
        refine WL.val rfl (run_move) ?_
        refine WL.enter rfl (run_call en49 rfl rfl) (hsp (hg.step hs)) ?_
        rintro e w ⟨rfl, hq⟩
        refine ⟨_, rfl, ?_⟩
        replace hs := hs.callE hq
        refine WL.val rfl (run_move) ?_
        refine WL.val rfl (run_extract rfl rfl) ?_
        refine WL.val rfl (run_extract rfl rfl) ?_
        refine WL.val rfl (run_extract rfl rfl) ?_
        refine WL.val rfl (run_assign) ?_
        refine WL.val rfl (run_assign) ?_
        refine WL.val rfl (run_assign) ?_
        refine WL.nil ?_
        by_cases hq : s.qf < (s.items : Int) + ml + 1
        · have e : (97 : Int) = res := by rw [← hres, if_pos (.inl hq)]
          repeat (first | refine CW.seq ?_ | refine CW.block ?_ | refine CW.skip ?_ | refine CW.label ?_ | refine CW.exit ?_ | refine CW.condT rfl ?_ | refine CW.condF rfl ?_)
          refine CW.quiet mixedP (by kernel_rfl) hs ?_
          refine QL.val rfl (fun w hs => run_move) ?_
          refine QL.enter rfl (fun w => run_call en44 rfl rfl) (fun w hs => hitm (hlw hs)) ?_
          refine QL.val rfl (fun w hs => run_move) ?_
          refine QL.val rfl (fun w hs => run_lenSl Tryd.underlying51 rfl) ?_
          refine QL.val rfl (fun w hs => run_add (c := ((s.items : Int) + ml)) rfl rfl (by omega) (by omega)) ?_
          refine QL.val rfl (fun w hs => run_add (c := ((s.items : Int) + ml + 1)) rfl rfl (by omega) (by omega)) ?_
          refine QL.val rfl (fun w hs => run_move) ?_
          refine QL.val rfl (fun w hs => run_nilCheck rfl) ?_
          refine QL.val rfl (fun w hs => run_field (o' := 3) Tryd.underlying81 rfl ty30 rfl rfl rfl) ?_
          refine QL.val rfl (fun w hs => run_field (o' := 1) Tryd.underlying30 rfl ty3 rfl rfl rfl) ?_
          refine QL.val rfl (fun w hs => run_load1 ty3 rfl ((hat (hlw hs)).cell (j := 4) rfl)) ?_
          refine QL.val rfl (fun w hs => run_bT (run_gtr rfl rfl) (by omega)) ?_
          refine QL.val rfl (fun w hs => run_move) ?_
          first | (refine QL.yes rfl rfl rfl ?_; refine QL.val rfl (fun w hs => run_move) ?_) | refine QL.no rfl rfl rfl (.inl rfl) ?_ | refine QL.no rfl rfl rfl (.inr rfl) ?_
          first | (refine QL.yes rfl rfl rfl ?_; refine QL.val rfl (fun w hs => run_nilCheck rfl) ?_) | refine QL.no rfl rfl rfl (.inl rfl) ?_ | refine QL.no rfl rfl rfl (.inr rfl) ?_
          first | (refine QL.yes rfl rfl rfl ?_; refine QL.val rfl (fun w hs => run_field (o' := 1) Tryd.underlying81 rfl ty78 rfl rfl rfl) ?_) | refine QL.no rfl rfl rfl (.inl rfl) ?_ | refine QL.no rfl rfl rfl (.inr rfl) ?_
          first | (refine QL.yes rfl rfl rfl ?_; (first | refine QL.val rfl (fun w hs => run_load1 ty78 rfl (hs.c0 rfl)) ?_ | refine QL.val rfl (fun w hs => run_load1 ty78 rfl (hs.c1 rfl)) ?_ | refine QL.val rfl (fun w hs => run_load1 ty78 rfl (hs.c2 rfl)) ?_ | refine QL.val rfl (fun w hs => run_load1 ty78 rfl (hs.c3 rfl)) ?_ | refine QL.val rfl (fun w hs => run_load1 ty78 rfl (hs.c4 rfl)) ?_ | refine QL.val rfl (fun w hs => run_load1 ty78 rfl (hs.c5 rfl)) ?_ | refine QL.val rfl (fun w hs => run_load1 ty78 rfl (hs.c0 rfl)) ?_)) | refine QL.no rfl rfl rfl (.inl rfl) ?_ | refine QL.no rfl rfl rfl (.inr rfl) ?_
          first | (refine QL.yes rfl rfl rfl ?_; refine QL.val rfl (fun w hs => run_move) ?_) | refine QL.no rfl rfl rfl (.inl rfl) ?_ | refine QL.no rfl rfl rfl (.inr rfl) ?_
          first | refine QL.no rfl rfl rfl (.inl rfl) ?_ | refine QL.no rfl rfl rfl (.inr rfl) ?_
          first | (refine QL.yes rfl rfl rfl ?_; refine QL.val rfl (fun w hs => run_nilCheck rfl) ?_) | refine QL.no rfl rfl rfl (.inl rfl) ?_ | refine QL.no rfl rfl rfl (.inr rfl) ?_
          first | (refine QL.yes rfl rfl rfl ?_; refine QL.val rfl (fun w hs => run_field (o' := 1) Tryd.underlying77 rfl ty3 rfl rfl rfl) ?_) | refine QL.no rfl rfl rfl (.inl rfl) ?_ | refine QL.no rfl rfl rfl (.inr rfl) ?_
          first | (refine QL.yes rfl rfl rfl ?_; (first | refine QL.val rfl (fun w hs => run_load1 ty3 rfl (hs.c0 rfl)) ?_ | refine QL.val rfl (fun w hs => run_load1 ty3 rfl (hs.c1 rfl)) ?_ | refine QL.val rfl (fun w hs => run_load1 ty3 rfl (hs.c2 rfl)) ?_ | refine QL.val rfl (fun w hs => run_load1 ty3 rfl (hs.c3 rfl)) ?_ | refine QL.val rfl (fun w hs => run_load1 ty3 rfl (hs.c4 rfl)) ?_ | refine QL.val rfl (fun w hs => run_load1 ty3 rfl (hs.c5 rfl)) ?_ | refine QL.val rfl (fun w hs => run_load1 ty3 rfl (hs.c0 rfl)) ?_)) | refine QL.no rfl rfl rfl (.inl rfl) ?_ | refine QL.no rfl rfl rfl (.inr rfl) ?_
          first | (refine QL.yes rfl rfl rfl ?_; refine QL.val rfl (fun w hs => run_geq rfl rfl) ?_) | refine QL.no rfl rfl rfl (.inl rfl) ?_ | refine QL.no rfl rfl rfl (.inr rfl) ?_
          first | refine QL.val rfl (fun w hs => run_pickT rfl) ?_ | refine QL.val rfl (fun w hs => run_pickF rfl) ?_
          refine QL.nil (fun w hs => ?_)
          repeat (first | refine CW.seq ?_ | refine CW.block ?_ | refine CW.skip ?_ | refine CW.label ?_ | refine CW.exit ?_)
          first | refine CW.condP rfl (fun h => ?_) (fun h => ?_) | refine CW.cond rfl (fun h => ?_) (fun h => ?_)
          · repeat (first | refine CW.seq ?_ | refine CW.block ?_ | refine CW.skip ?_ | refine CW.label ?_ | refine CW.exit ?_ | refine CW.condT rfl ?_ | refine CW.condF rfl ?_)
            refine CW.reg ?_
            refine WL.val rfl (run_assign) ?_
            refine WL.nil ?_
            repeat (first | refine CW.seq ?_ | refine CW.block ?_ | refine CW.skip ?_ | refine CW.label ?_ | refine CW.exit ?_ | refine CW.condT rfl ?_ | refine CW.condF rfl ?_)
            refine CW.ret ?_
            refine fin_ret1 rfl ?_
            exact ⟨congrArg (fun b => Ending.returned (.int .i64 b)) e, hs⟩
          · cases h
        · by_cases hb : 1024 ≤ r.n
          · have e : (97 : Int) = res := by rw [← hres, if_pos (.inr hb)]
            repeat (first | refine CW.seq ?_ | refine CW.block ?_ | refine CW.skip ?_ | refine CW.label ?_ | refine CW.exit ?_ | refine CW.condT rfl ?_ | refine CW.condF rfl ?_)
            refine CW.quiet mixedP (by kernel_rfl) hs ?_
            refine QL.val rfl (fun w hs => run_move) ?_
            refine QL.enter rfl (fun w => run_call en44 rfl rfl) (fun w hs => hitm (hlw hs)) ?_
            refine QL.val rfl (fun w hs => run_move) ?_
            refine QL.val rfl (fun w hs => run_lenSl Tryd.underlying51 rfl) ?_
            refine QL.val rfl (fun w hs => run_add (c := ((s.items : Int) + ml)) rfl rfl (by omega) (by omega)) ?_
            refine QL.val rfl (fun w hs => run_add (c := ((s.items : Int) + ml + 1)) rfl rfl (by omega) (by omega)) ?_
            refine QL.val rfl (fun w hs => run_move) ?_
            refine QL.val rfl (fun w hs => run_nilCheck rfl) ?_
            refine QL.val rfl (fun w hs => run_field (o' := 3) Tryd.underlying81 rfl ty30 rfl rfl rfl) ?_
            refine QL.val rfl (fun w hs => run_field (o' := 1) Tryd.underlying30 rfl ty3 rfl rfl rfl) ?_
            refine QL.val rfl (fun w hs => run_load1 ty3 rfl ((hat (hlw hs)).cell (j := 4) rfl)) ?_
            refine QL.val rfl (fun w hs => run_bF (run_gtr rfl rfl) (by omega)) ?_
            refine QL.val rfl (fun w hs => run_move) ?_
            first | (refine QL.yes rfl rfl rfl ?_; refine QL.val rfl (fun w hs => run_move) ?_) | refine QL.no rfl rfl rfl (.inl rfl) ?_ | refine QL.no rfl rfl rfl (.inr rfl) ?_
            first | (refine QL.yes rfl rfl rfl ?_; refine QL.val rfl (fun w hs => run_nilCheck rfl) ?_) | refine QL.no rfl rfl rfl (.inl rfl) ?_ | refine QL.no rfl rfl rfl (.inr rfl) ?_
            first | (refine QL.yes rfl rfl rfl ?_; refine QL.val rfl (fun w hs => run_field (o' := 1) Tryd.underlying81 rfl ty78 rfl rfl rfl) ?_) | refine QL.no rfl rfl rfl (.inl rfl) ?_ | refine QL.no rfl rfl rfl (.inr rfl) ?_
            refine QL.yes rfl rfl rfl ?_
            refine QL.val rfl (fun w hs => run_load1 ty78 rfl ((hat (hlw hs)).cell (j := 1) rfl)) ?_
            first | (refine QL.yes rfl rfl rfl ?_; refine QL.val rfl (fun w hs => run_move) ?_) | refine QL.no rfl rfl rfl (.inl rfl) ?_ | refine QL.no rfl rfl rfl (.inr rfl) ?_
            refine QL.yes rfl rfl rfl ?_
            refine QL.val rfl (fun w hs => run_lookupSE Tryd.underlying78 Tryd.underlying9 (zDir _) (hvU) rfl rfl (o.md_ (hlw hs))) ?_
            first | (refine QL.yes rfl rfl rfl ?_; refine QL.val rfl (fun w hs => run_nilCheck rfl) ?_) | refine QL.no rfl rfl rfl (.inl rfl) ?_ | refine QL.no rfl rfl rfl (.inr rfl) ?_
            first | (refine QL.yes rfl rfl rfl ?_; refine QL.val rfl (fun w hs => run_field (o' := 1) Tryd.underlying77 rfl ty3 rfl rfl rfl) ?_) | refine QL.no rfl rfl rfl (.inl rfl) ?_ | refine QL.no rfl rfl rfl (.inr rfl) ?_
            refine QL.yes rfl rfl rfl ?_
            refine QL.val rfl (fun w hs => run_load1 ty3 rfl ((o.dat (hlw hs) hr).cell (j := 1) rfl)) ?_
            refine QL.yes rfl rfl rfl ?_
            refine QL.val rfl (fun w hs => run_bT (run_geq rfl rfl) (by omega)) ?_
            first | refine QL.val rfl (fun w hs => run_pickT rfl) ?_ | refine QL.val rfl (fun w hs => run_pickF rfl) ?_
            refine QL.nil (fun w hs => ?_)
            repeat (first | refine CW.seq ?_ | refine CW.block ?_ | refine CW.skip ?_ | refine CW.label ?_ | refine CW.exit ?_)
            first | refine CW.condP rfl (fun h => ?_) (fun h => ?_) | refine CW.cond rfl (fun h => ?_) (fun h => ?_)
            · repeat (first | refine CW.seq ?_ | refine CW.block ?_ | refine CW.skip ?_ | refine CW.label ?_ | refine CW.exit ?_ | refine CW.condT rfl ?_ | refine CW.condF rfl ?_)
              refine CW.reg ?_
              refine WL.val rfl (run_assign) ?_
              refine WL.nil ?_
              repeat (first | refine CW.seq ?_ | refine CW.block ?_ | refine CW.skip ?_ | refine CW.label ?_ | refine CW.exit ?_ | refine CW.condT rfl ?_ | refine CW.condF rfl ?_)
              refine CW.ret ?_
              refine fin_ret1 rfl ?_
              exact ⟨congrArg (fun b => Ending.returned (.int .i64 b)) e, hs⟩
            · cases h
          · have hfin : (if s.qo ≤ (s.op : Int) then (98 : Int) else 0) = res := (if_neg (fun h => Or.elim h hq hb)).symm.trans hres
            repeat (first | refine CW.seq ?_ | refine CW.block ?_ | refine CW.skip ?_ | refine CW.label ?_ | refine CW.exit ?_ | refine CW.condT rfl ?_ | refine CW.condF rfl ?_)
            refine CW.quiet mixedP (by kernel_rfl) hs ?_
            refine QL.val rfl (fun w hs => run_move) ?_
            refine QL.enter rfl (fun w => run_call en44 rfl rfl) (fun w hs => hitm (hlw hs)) ?_
            refine QL.val rfl (fun w hs => run_move) ?_
            refine QL.val rfl (fun w hs => run_lenSl Tryd.underlying51 rfl) ?_
            refine QL.val rfl (fun w hs => run_add (c := ((s.items : Int) + ml)) rfl rfl (by omega) (by omega)) ?_
            refine QL.val rfl (fun w hs => run_add (c := ((s.items : Int) + ml + 1)) rfl rfl (by omega) (by omega)) ?_
            refine QL.val rfl (fun w hs => run_move) ?_
            refine QL.val rfl (fun w hs => run_nilCheck rfl) ?_
            refine QL.val rfl (fun w hs => run_field (o' := 3) Tryd.underlying81 rfl ty30 rfl rfl rfl) ?_
            refine QL.val rfl (fun w hs => run_field (o' := 1) Tryd.underlying30 rfl ty3 rfl rfl rfl) ?_
            refine QL.val rfl (fun w hs => run_load1 ty3 rfl ((hat (hlw hs)).cell (j := 4) rfl)) ?_
            refine QL.val rfl (fun w hs => run_bF (run_gtr rfl rfl) (by omega)) ?_
            refine QL.val rfl (fun w hs => run_move) ?_
            first | (refine QL.yes rfl rfl rfl ?_; refine QL.val rfl (fun w hs => run_move) ?_) | refine QL.no rfl rfl rfl (.inl rfl) ?_ | refine QL.no rfl rfl rfl (.inr rfl) ?_
            first | (refine QL.yes rfl rfl rfl ?_; refine QL.val rfl (fun w hs => run_nilCheck rfl) ?_) | refine QL.no rfl rfl rfl (.inl rfl) ?_ | refine QL.no rfl rfl rfl (.inr rfl) ?_
            first | (refine QL.yes rfl rfl rfl ?_; refine QL.val rfl (fun w hs => run_field (o' := 1) Tryd.underlying81 rfl ty78 rfl rfl rfl) ?_) | refine QL.no rfl rfl rfl (.inl rfl) ?_ | refine QL.no rfl rfl rfl (.inr rfl) ?_
            refine QL.yes rfl rfl rfl ?_
            refine QL.val rfl (fun w hs => run_load1 ty78 rfl ((hat (hlw hs)).cell (j := 1) rfl)) ?_
            first | (refine QL.yes rfl rfl rfl ?_; refine QL.val rfl (fun w hs => run_move) ?_) | refine QL.no rfl rfl rfl (.inl rfl) ?_ | refine QL.no rfl rfl rfl (.inr rfl) ?_
            refine QL.yes rfl rfl rfl ?_
            refine QL.val rfl (fun w hs => run_lookupSE Tryd.underlying78 Tryd.underlying9 (zDir _) (hvU) rfl rfl (o.md_ (hlw hs))) ?_
            first | (refine QL.yes rfl rfl rfl ?_; refine QL.val rfl (fun w hs => run_nilCheck rfl) ?_) | refine QL.no rfl rfl rfl (.inl rfl) ?_ | refine QL.no rfl rfl rfl (.inr rfl) ?_
            first | (refine QL.yes rfl rfl rfl ?_; refine QL.val rfl (fun w hs => run_field (o' := 1) Tryd.underlying77 rfl ty3 rfl rfl rfl) ?_) | refine QL.no rfl rfl rfl (.inl rfl) ?_ | refine QL.no rfl rfl rfl (.inr rfl) ?_
            refine QL.yes rfl rfl rfl ?_
            refine QL.val rfl (fun w hs => run_load1 ty3 rfl ((o.dat (hlw hs) hr).cell (j := 1) rfl)) ?_
            refine QL.yes rfl rfl rfl ?_
            refine QL.val rfl (fun w hs => run_bF (run_geq rfl rfl) (by omega)) ?_
            first | refine QL.val rfl (fun w hs => run_pickT rfl) ?_ | refine QL.val rfl (fun w hs => run_pickF rfl) ?_
            refine QL.nil (fun w hs => ?_)
            repeat (first | refine CW.seq ?_ | refine CW.block ?_ | refine CW.skip ?_ | refine CW.label ?_ | refine CW.exit ?_)
            first | refine CW.condP rfl (fun h => ?_) (fun h => ?_) | refine CW.cond rfl (fun h => ?_) (fun h => ?_)
            · cases h
            by_cases ho : s.qo ≤ (s.op : Int)
            · have e : (98 : Int) = res := by rw [← hfin, if_pos ho]
              repeat (first | refine CW.seq ?_ | refine CW.block ?_ | refine CW.skip ?_ | refine CW.label ?_ | refine CW.exit ?_ | refine CW.condT rfl ?_ | refine CW.condF rfl ?_)
              refine CW.quiet mixedP (by kernel_rfl) hs ?_
              refine QL.val rfl (fun w hs => run_move) ?_
              refine QL.val rfl (fun w hs => run_nilCheck rfl) ?_
              refine QL.val rfl (fun w hs => run_field (o' := 7) Tryd.underlying81 rfl ty3 rfl rfl rfl) ?_
              refine QL.val rfl (fun w hs => run_load1 ty3 rfl ((hat (hlw hs)).cell (j := 7) rfl)) ?_
              refine QL.val rfl (fun w hs => run_move) ?_
              refine QL.val rfl (fun w hs => run_nilCheck rfl) ?_
              refine QL.val rfl (fun w hs => run_field (o' := 3) Tryd.underlying81 rfl ty30 rfl rfl rfl) ?_
              refine QL.val rfl (fun w hs => run_field (o' := 2) Tryd.underlying30 rfl ty3 rfl rfl rfl) ?_
              refine QL.val rfl (fun w hs => run_load1 ty3 rfl ((hat (hlw hs)).cell (j := 5) rfl)) ?_
              refine QL.val rfl (fun w hs => run_bT (run_geq rfl rfl) (by omega)) ?_
              refine QL.nil (fun w hs => ?_)
              repeat (first | refine CW.seq ?_ | refine CW.block ?_ | refine CW.skip ?_ | refine CW.label ?_ | refine CW.exit ?_)
              first | refine CW.condP rfl (fun h => ?_) (fun h => ?_) | refine CW.cond rfl (fun h => ?_) (fun h => ?_)
              · repeat (first | refine CW.seq ?_ | refine CW.block ?_ | refine CW.skip ?_ | refine CW.label ?_ | refine CW.exit ?_ | refine CW.condT rfl ?_ | refine CW.condF rfl ?_)
                refine CW.reg ?_
                refine WL.val rfl (run_assign) ?_
                refine WL.nil ?_
                repeat (first | refine CW.seq ?_ | refine CW.block ?_ | refine CW.skip ?_ | refine CW.label ?_ | refine CW.exit ?_ | refine CW.condT rfl ?_ | refine CW.condF rfl ?_)
                refine CW.ret ?_
                refine fin_ret1 rfl ?_
                exact ⟨congrArg (fun b => Ending.returned (.int .i64 b)) e, hs⟩
              · cases h
            · have e : (0 : Int) = res := by rw [← hfin, if_neg ho]
              repeat (first | refine CW.seq ?_ | refine CW.block ?_ | refine CW.skip ?_ | refine CW.label ?_ | refine CW.exit ?_ | refine CW.condT rfl ?_ | refine CW.condF rfl ?_)
              refine CW.quiet mixedP (by kernel_rfl) hs ?_
              refine QL.val rfl (fun w hs => run_move) ?_
              refine QL.val rfl (fun w hs => run_nilCheck rfl) ?_
              refine QL.val rfl (fun w hs => run_field (o' := 7) Tryd.underlying81 rfl ty3 rfl rfl rfl) ?_
              refine QL.val rfl (fun w hs => run_load1 ty3 rfl ((hat (hlw hs)).cell (j := 7) rfl)) ?_
              refine QL.val rfl (fun w hs => run_move) ?_
              refine QL.val rfl (fun w hs => run_nilCheck rfl) ?_
              refine QL.val rfl (fun w hs => run_field (o' := 3) Tryd.underlying81 rfl ty30 rfl rfl rfl) ?_
              refine QL.val rfl (fun w hs => run_field (o' := 2) Tryd.underlying30 rfl ty3 rfl rfl rfl) ?_
              refine QL.val rfl (fun w hs => run_load1 ty3 rfl ((hat (hlw hs)).cell (j := 5) rfl)) ?_
              refine QL.val rfl (fun w hs => run_bF (run_geq rfl rfl) (by omega)) ?_
              refine QL.nil (fun w hs => ?_)
              repeat (first | refine CW.seq ?_ | refine CW.block ?_ | refine CW.skip ?_ | refine CW.label ?_ | refine CW.exit ?_)
              first | refine CW.condP rfl (fun h => ?_) (fun h => ?_) | refine CW.cond rfl (fun h => ?_) (fun h => ?_)
              · cases h
              repeat (first | refine CW.seq ?_ | refine CW.block ?_ | refine CW.skip ?_ | refine CW.label ?_ | refine CW.exit ?_ | refine CW.condT rfl ?_ | refine CW.condF rfl ?_)
              refine CW.reg ?_
              refine WL.val rfl (run_assign) ?_
              refine WL.nil ?_
              repeat (first | refine CW.seq ?_ | refine CW.block ?_ | refine CW.skip ?_ | refine CW.label ?_ | refine CW.exit ?_ | refine CW.condT rfl ?_ | refine CW.condF rfl ?_)
              refine CW.ret ?_
              refine fin_ret1 rfl ?_
              exact ⟨congrArg (fun b => Ending.returned (.int .i64 b)) e, hs⟩
      · cases h
    | cons m0 ms =>
      have hobt := hm.based (by simp)
      obtain ⟨bm, om, cc, hq1, hmat⟩ := hobt
      cases hq1
      have hml0 : 0 < ml := by rw [← eml]; simp
      replace efst : m0 = fst := efst
      subst efst
      refine calls (n := 79) Tryd.func31 rfl rfl rfl ?_
      repeat (first | refine CW.seq ?_ | refine CW.block ?_ | refine CW.skip ?_ | refine CW.label ?_ | refine CW.exit ?_ | refine CW.condT rfl ?_ | refine CW.condF rfl ?_)
      refine CW.reg ?_
      refine WL.val rfl (run_assign) ?_
      refine WL.nil ?_
      repeat (first | refine CW.seq ?_ | refine CW.block ?_ | refine CW.skip ?_ | refine CW.label ?_ | refine CW.exit ?_ | refine CW.condT rfl ?_ | refine CW.condF rfl ?_)
      refine CW.reg ?_
      refine WL.val rfl (run_move) ?_
      refine WL.val rfl (run_nilCheck rfl) ?_
      refine WL.val rfl (run_field (o' := 1) Tryd.underlying81 rfl ty78 rfl rfl rfl) ?_
      refine WL.val rfl (run_load1 ty78 rfl ((hat (hlw hs)).cell (j := 1) rfl)) ?_
      refine WL.val rfl (run_move) ?_
      refine WL.val rfl (run_lookupSE Tryd.underlying78 Tryd.underlying9 (zDir _) (hvD) rfl rfl (o.md_ (hlw hs))) ?_
      refine WL.val rfl (run_nilNe Tryd.underlying73 rfl rfl) ?_
      refine WL.val rfl (run_assign) ?_
      refine WL.nil ?_
      repeat (first | refine CW.seq ?_ | refine CW.block ?_ | refine CW.skip ?_ | refine CW.label ?_ | refine CW.exit ?_)
      first | refine CW.condP rfl (fun h => ?_) (fun h => ?_) | refine CW.cond rfl (fun h => ?_) (fun h => ?_)
      · cases h
      repeat (first | refine CW.seq ?_ | refine CW.block ?_ | refine CW.skip ?_ | refine CW.label ?_ | refine CW.exit ?_ | refine CW.condT rfl ?_ | refine CW.condF rfl ?_)
      refine CW.reg ?_
      refine WL.val rfl (run_move) ?_
      refine WL.val rfl (run_nilNil Tryd.underlying86 rfl rfl) ?_
      refine WL.val rfl (run_move) ?_
      first | (refine WL.yes rfl rfl rfl ?_; refine WL.val rfl (run_move) ?_) | refine WL.no rfl rfl rfl (.inl rfl) ?_ | refine WL.no rfl rfl rfl (.inr rfl) ?_
      refine WL.yes rfl rfl rfl ?_
      refine WL.val rfl (run_bF (run_eql rfl rfl) (by exact hm0)) ?_
      first | refine WL.val rfl (run_pickT rfl) ?_ | refine WL.val rfl (run_pickF rfl) ?_
      refine WL.val rfl (run_assign) ?_
      refine WL.nil ?_
      repeat (first | refine CW.seq ?_ | refine CW.block ?_ | refine CW.skip ?_ | refine CW.label ?_ | refine CW.exit ?_)
      first | refine CW.condP rfl (fun h => ?_) (fun h => ?_) | refine CW.cond rfl (fun h => ?_) (fun h => ?_)
      · cases h
      repeat (first | refine CW.seq ?_ | refine CW.block ?_ | refine CW.skip ?_ | refine CW.label ?_ | refine CW.exit ?_ | refine CW.condT rfl ?_ | refine CW.condF rfl ?_)
      refine CW.reg ?_
      refine WL.val rfl (run_move) ?_
      refine WL.val rfl (run_nilNil Tryd.underlying86 rfl rfl) ?_
      refine WL.nil ?_
      repeat (first | refine CW.seq ?_ | refine CW.block ?_ | refine CW.skip ?_ | refine CW.label ?_ | refine CW.exit ?_)
      first | refine CW.condP rfl (fun h => ?_) (fun h => ?_) | refine CW.cond rfl (fun h => ?_) (fun h => ?_)
      · repeat (first | refine CW.seq ?_ | refine CW.block ?_ | refine CW.skip ?_ | refine CW.label ?_ | refine CW.exit ?_ | refine CW.condT rfl ?_ | refine CW.condF rfl ?_)
        refine CW.reg ?_
        refine WL.val rfl (run_move) ?_
        refine WL.val rfl (run_assign) ?_
        refine WL.nil ?_
        repeat (first | refine CW.seq ?_ | refine CW.block ?_ | refine CW.skip ?_ | refine CW.label ?_ | refine CW.exit ?_ | refine CW.condT rfl ?_ | refine CW.condF rfl ?_)
        refine CW.reg ?_
        refine WL.val rfl (run_move) ?_
        refine WL.val rfl (run_lenSl Tryd.underlying51 rfl) ?_
        refine WL.val rfl (run_bT (run_gtr rfl rfl) (by omega)) ?_
        refine WL.nil ?_
        repeat (first | refine CW.seq ?_ | refine CW.block ?_ | refine CW.skip ?_ | refine CW.label ?_ | refine CW.exit ?_)
        first | refine CW.condP rfl (fun h => ?_) (fun h => ?_) | refine CW.cond rfl (fun h => ?_) (fun h => ?_)
        · repeat (first | refine CW.seq ?_ | refine CW.block ?_ | refine CW.skip ?_ | refine CW.label ?_ | refine CW.exit ?_ | refine CW.condT rfl ?_ | refine CW.condF rfl ?_)
          refine CW.reg ?_
          refine WL.val rfl (run_move) ?_
          refine WL.val rfl (run_ixSlN (i := 0) Tryd.underlying51 ty9 rfl rfl (by omega)) ?_
          refine WL.val rfl (run_load1 ty9 rfl ((hmat.step hs (by simp)).cell (j := 0) (v := str m0) rfl)) ?_
          refine WL.val rfl (run_assign) ?_
          refine WL.nil ?_
          repeat (first | refine CW.seq ?_ | refine CW.block ?_ | refine CW.skip ?_ | refine CW.label ?_ | refine CW.exit ?_ | refine CW.condT rfl ?_ | refine CW.condF rfl ?_)
          refine CW.reg ?_
          refine WL.val rfl (run_move) ?_
          refine WL.enter rfl (run_call en49 rfl rfl) (hsp (hg.step hs)) ?_
          rintro e w ⟨rfl, hq⟩
          refine ⟨_, rfl, ?_⟩
          replace hs := hs.callE hq
          refine WL.val rfl (run_move) ?_
          refine WL.val rfl (run_extract rfl rfl) ?_
          refine WL.val rfl (run_extract rfl rfl) ?_
          refine WL.val rfl (run_extract rfl rfl) ?_
          refine WL.val rfl (run_assign) ?_
          refine WL.val rfl (run_assign) ?_
          refine WL.val rfl (run_assign) ?_
          refine WL.nil ?_
          by_cases hq : s.qf < (s.items : Int) + ml + 1
          · have e : (97 : Int) = res := by rw [← hres, if_pos (.inl hq)]
            repeat (first | refine CW.seq ?_ | refine CW.block ?_ | refine CW.skip ?_ | refine CW.label ?_ | refine CW.exit ?_ | refine CW.condT rfl ?_ | refine CW.condF rfl ?_)
            refine CW.quiet mixedP (by kernel_rfl) hs ?_
            refine QL.val rfl (fun w hs => run_move) ?_
            refine QL.enter rfl (fun w => run_call en44 rfl rfl) (fun w hs => hitm (hlw hs)) ?_
            refine QL.val rfl (fun w hs => run_move) ?_
            refine QL.val rfl (fun w hs => run_lenSl Tryd.underlying51 rfl) ?_
            refine QL.val rfl (fun w hs => run_add (c := ((s.items : Int) + ml)) rfl rfl (by omega) (by omega)) ?_
            refine QL.val rfl (fun w hs => run_add (c := ((s.items : Int) + ml + 1)) rfl rfl (by omega) (by omega)) ?_
            refine QL.val rfl (fun w hs => run_move) ?_
            refine QL.val rfl (fun w hs => run_nilCheck rfl) ?_
            refine QL.val rfl (fun w hs => run_field (o' := 3) Tryd.underlying81 rfl ty30 rfl rfl rfl) ?_
            refine QL.val rfl (fun w hs => run_field (o' := 1) Tryd.underlying30 rfl ty3 rfl rfl rfl) ?_
            refine QL.val rfl (fun w hs => run_load1 ty3 rfl ((hat (hlw hs)).cell (j := 4) rfl)) ?_
            refine QL.val rfl (fun w hs => run_bT (run_gtr rfl rfl) (by omega)) ?_
            refine QL.val rfl (fun w hs => run_move) ?_
            first | (refine QL.yes rfl rfl rfl ?_; refine QL.val rfl (fun w hs => run_move) ?_) | refine QL.no rfl rfl rfl (.inl rfl) ?_ | refine QL.no rfl rfl rfl (.inr rfl) ?_
            first | (refine QL.yes rfl rfl rfl ?_; refine QL.val rfl (fun w hs => run_nilCheck rfl) ?_) | refine QL.no rfl rfl rfl (.inl rfl) ?_ | refine QL.no rfl rfl rfl (.inr rfl) ?_
            first | (refine QL.yes rfl rfl rfl ?_; refine QL.val rfl (fun w hs => run_field (o' := 1) Tryd.underlying81 rfl ty78 rfl rfl rfl) ?_) | refine QL.no rfl rfl rfl (.inl rfl) ?_ | refine QL.no rfl rfl rfl (.inr rfl) ?_
            first | (refine QL.yes rfl rfl rfl ?_; (first | refine QL.val rfl (fun w hs => run_load1 ty78 rfl (hs.c0 rfl)) ?_ | refine QL.val rfl (fun w hs => run_load1 ty78 rfl (hs.c1 rfl)) ?_ | refine QL.val rfl (fun w hs => run_load1 ty78 rfl (hs.c2 rfl)) ?_ | refine QL.val rfl (fun w hs => run_load1 ty78 rfl (hs.c3 rfl)) ?_ | refine QL.val rfl (fun w hs => run_load1 ty78 rfl (hs.c4 rfl)) ?_ | refine QL.val rfl (fun w hs => run_load1 ty78 rfl (hs.c5 rfl)) ?_ | refine QL.val rfl (fun w hs => run_load1 ty78 rfl (hs.c0 rfl)) ?_)) | refine QL.no rfl rfl rfl (.inl rfl) ?_ | refine QL.no rfl rfl rfl (.inr rfl) ?_
            first | (refine QL.yes rfl rfl rfl ?_; refine QL.val rfl (fun w hs => run_move) ?_) | refine QL.no rfl rfl rfl (.inl rfl) ?_ | refine QL.no rfl rfl rfl (.inr rfl) ?_
            first | refine QL.no rfl rfl rfl (.inl rfl) ?_ | refine QL.no rfl rfl rfl (.inr rfl) ?_
            first | (refine QL.yes rfl rfl rfl ?_; refine QL.val rfl (fun w hs => run_nilCheck rfl) ?_) | refine QL.no rfl rfl rfl (.inl rfl) ?_ | refine QL.no rfl rfl rfl (.inr rfl) ?_
            first | (refine QL.yes rfl rfl rfl ?_; refine QL.val rfl (fun w hs => run_field (o' := 1) Tryd.underlying77 rfl ty3 rfl rfl rfl) ?_) | refine QL.no rfl rfl rfl (.inl rfl) ?_ | refine QL.no rfl rfl rfl (.inr rfl) ?_
            first | (refine QL.yes rfl rfl rfl ?_; (first | refine QL.val rfl (fun w hs => run_load1 ty3 rfl (hs.c0 rfl)) ?_ | refine QL.val rfl (fun w hs => run_load1 ty3 rfl (hs.c1 rfl)) ?_ | refine QL.val rfl (fun w hs => run_load1 ty3 rfl (hs.c2 rfl)) ?_ | refine QL.val rfl (fun w hs => run_load1 ty3 rfl (hs.c3 rfl)) ?_ | refine QL.val rfl (fun w hs => run_load1 ty3 rfl (hs.c4 rfl)) ?_ | refine QL.val rfl (fun w hs => run_load1 ty3 rfl (hs.c5 rfl)) ?_ | refine QL.val rfl (fun w hs => run_load1 ty3 rfl (hs.c0 rfl)) ?_)) | refine QL.no rfl rfl rfl (.inl rfl) ?_ | refine QL.no rfl rfl rfl (.inr rfl) ?_
            first | (refine QL.yes rfl rfl rfl ?_; refine QL.val rfl (fun w hs => run_geq rfl rfl) ?_) | refine QL.no rfl rfl rfl (.inl rfl) ?_ | refine QL.no rfl rfl rfl (.inr rfl) ?_
            first | refine QL.val rfl (fun w hs => run_pickT rfl) ?_ | refine QL.val rfl (fun w hs => run_pickF rfl) ?_
            refine QL.nil (fun w hs => ?_)
            repeat (first | refine CW.seq ?_ | refine CW.block ?_ | refine CW.skip ?_ | refine CW.label ?_ | refine CW.exit ?_)
            first | refine CW.condP rfl (fun h => ?_) (fun h => ?_) | refine CW.cond rfl (fun h => ?_) (fun h => ?_)
            · repeat (first | refine CW.seq ?_ | refine CW.block ?_ | refine CW.skip ?_ | refine CW.label ?_ | refine CW.exit ?_ | refine CW.condT rfl ?_ | refine CW.condF rfl ?_)
              refine CW.reg ?_
              refine WL.val rfl (run_assign) ?_
              refine WL.nil ?_
              repeat (first | refine CW.seq ?_ | refine CW.block ?_ | refine CW.skip ?_ | refine CW.label ?_ | refine CW.exit ?_ | refine CW.condT rfl ?_ | refine CW.condF rfl ?_)
              refine CW.ret ?_
              refine fin_ret1 rfl ?_
              exact ⟨congrArg (fun b => Ending.returned (.int .i64 b)) e, hs⟩
            · cases h
          · by_cases hb : 1024 ≤ r.n
            · have e : (97 : Int) = res := by rw [← hres, if_pos (.inr hb)]
              repeat (first | refine CW.seq ?_ | refine CW.block ?_ | refine CW.skip ?_ | refine CW.label ?_ | refine CW.exit ?_ | refine CW.condT rfl ?_ | refine CW.condF rfl ?_)
              refine CW.quiet mixedP (by kernel_rfl) hs ?_
              refine QL.val rfl (fun w hs => run_move) ?_
              refine QL.enter rfl (fun w => run_call en44 rfl rfl) (fun w hs => hitm (hlw hs)) ?_
              refine QL.val rfl (fun w hs => run_move) ?_
              refine QL.val rfl (fun w hs => run_lenSl Tryd.underlying51 rfl) ?_
              refine QL.val rfl (fun w hs => run_add (c := ((s.items : Int) + ml)) rfl rfl (by omega) (by omega)) ?_
              refine QL.val rfl (fun w hs => run_add (c := ((s.items : Int) + ml + 1)) rfl rfl (by omega) (by omega)) ?_
              refine QL.val rfl (fun w hs => run_move) ?_
              refine QL.val rfl (fun w hs => run_nilCheck rfl) ?_
              refine QL.val rfl (fun w hs => run_field (o' := 3) Tryd.underlying81 rfl ty30 rfl rfl rfl) ?_
              refine QL.val rfl (fun w hs => run_field (o' := 1) Tryd.underlying30 rfl ty3 rfl rfl rfl) ?_
              refine QL.val rfl (fun w hs => run_load1 ty3 rfl ((hat (hlw hs)).cell (j := 4) rfl)) ?_
              refine QL.val rfl (fun w hs => run_bF (run_gtr rfl rfl) (by omega)) ?_
              refine QL.val rfl (fun w hs => run_move) ?_
              first | (refine QL.yes rfl rfl rfl ?_; refine QL.val rfl (fun w hs => run_move) ?_) | refine QL.no rfl rfl rfl (.inl rfl) ?_ | refine QL.no rfl rfl rfl (.inr rfl) ?_
              first | (refine QL.yes rfl rfl rfl ?_; refine QL.val rfl (fun w hs => run_nilCheck rfl) ?_) | refine QL.no rfl rfl rfl (.inl rfl) ?_ | refine QL.no rfl rfl rfl (.inr rfl) ?_
              first | (refine QL.yes rfl rfl rfl ?_; refine QL.val rfl (fun w hs => run_field (o' := 1) Tryd.underlying81 rfl ty78 rfl rfl rfl) ?_) | refine QL.no rfl rfl rfl (.inl rfl) ?_ | refine QL.no rfl rfl rfl (.inr rfl) ?_
              refine QL.yes rfl rfl rfl ?_
              refine QL.val rfl (fun w hs => run_load1 ty78 rfl ((hat (hlw hs)).cell (j := 1) rfl)) ?_
              first | (refine QL.yes rfl rfl rfl ?_; refine QL.val rfl (fun w hs => run_move) ?_) | refine QL.no rfl rfl rfl (.inl rfl) ?_ | refine QL.no rfl rfl rfl (.inr rfl) ?_
              refine QL.yes rfl rfl rfl ?_
              refine QL.val rfl (fun w hs => run_lookupSE Tryd.underlying78 Tryd.underlying9 (zDir _) (hvU) rfl rfl (o.md_ (hlw hs))) ?_
              first | (refine QL.yes rfl rfl rfl ?_; refine QL.val rfl (fun w hs => run_nilCheck rfl) ?_) | refine QL.no rfl rfl rfl (.inl rfl) ?_ | refine QL.no rfl rfl rfl (.inr rfl) ?_
              first | (refine QL.yes rfl rfl rfl ?_; refine QL.val rfl (fun w hs => run_field (o' := 1) Tryd.underlying77 rfl ty3 rfl rfl rfl) ?_) | refine QL.no rfl rfl rfl (.inl rfl) ?_ | refine QL.no rfl rfl rfl (.inr rfl) ?_
              refine QL.yes rfl rfl rfl ?_
              refine QL.val rfl (fun w hs => run_load1 ty3 rfl ((o.dat (hlw hs) hr).cell (j := 1) rfl)) ?_
              refine QL.yes rfl rfl rfl ?_
              refine QL.val rfl (fun w hs => run_bT (run_geq rfl rfl) (by omega)) ?_
              first | refine QL.val rfl (fun w hs => run_pickT rfl) ?_ | refine QL.val rfl (fun w hs => run_pickF rfl) ?_
              refine QL.nil (fun w hs => ?_)
              repeat (first | refine CW.seq ?_ | refine CW.block ?_ | refine CW.skip ?_ | refine CW.label ?_ | refine CW.exit ?_)
              first | refine CW.condP rfl (fun h => ?_) (fun h => ?_) | refine CW.cond rfl (fun h => ?_) (fun h => ?_)
              · repeat (first | refine CW.seq ?_ | refine CW.block ?_ | refine CW.skip ?_ | refine CW.label ?_ | refine CW.exit ?_ | refine CW.condT rfl ?_ | refine CW.condF rfl ?_)
                refine CW.reg ?_
                refine WL.val rfl (run_assign) ?_
                refine WL.nil ?_
                repeat (first | refine CW.seq ?_ | refine CW.block ?_ | refine CW.skip ?_ | refine CW.label ?_ | refine CW.exit ?_ | refine CW.condT rfl ?_ | refine CW.condF rfl ?_)
                refine CW.ret ?_
                refine fin_ret1 rfl ?_
                exact ⟨congrArg (fun b => Ending.returned (.int .i64 b)) e, hs⟩
              · cases h
            · have hfin : (if s.qo ≤ (s.op : Int) then (98 : Int) else 0) = res := (if_neg (fun h => Or.elim h hq hb)).symm.trans hres
              repeat (first | refine CW.seq ?_ | refine CW.block ?_ | refine CW.skip ?_ | refine CW.label ?_ | refine CW.exit ?_ | refine CW.condT rfl ?_ | refine CW.condF rfl ?_)
              refine CW.quiet mixedP (by kernel_rfl) hs ?_
              refine QL.val rfl (fun w hs => run_move) ?_
              refine QL.enter rfl (fun w => run_call en44 rfl rfl) (fun w hs => hitm (hlw hs)) ?_
              refine QL.val rfl (fun w hs => run_move) ?_
              refine QL.val rfl (fun w hs => run_lenSl Tryd.underlying51 rfl) ?_
              refine QL.val rfl (fun w hs => run_add (c := ((s.items : Int) + ml)) rfl rfl (by omega) (by omega)) ?_
              refine QL.val rfl (fun w hs => run_add (c := ((s.items : Int) + ml + 1)) rfl rfl (by omega) (by omega)) ?_
              refine QL.val rfl (fun w hs => run_move) ?_
              refine QL.val rfl (fun w hs => run_nilCheck rfl) ?_
              refine QL.val rfl (fun w hs => run_field (o' := 3) Tryd.underlying81 rfl ty30 rfl rfl rfl) ?_
              refine QL.val rfl (fun w hs => run_field (o' := 1) Tryd.underlying30 rfl ty3 rfl rfl rfl) ?_
              refine QL.val rfl (fun w hs => run_load1 ty3 rfl ((hat (hlw hs)).cell (j := 4) rfl)) ?_
              refine QL.val rfl (fun w hs => run_bF (run_gtr rfl rfl) (by omega)) ?_
              refine QL.val rfl (fun w hs => run_move) ?_
              first | (refine QL.yes rfl rfl rfl ?_; refine QL.val rfl (fun w hs => run_move) ?_) | refine QL.no rfl rfl rfl (.inl rfl) ?_ | refine QL.no rfl rfl rfl (.inr rfl) ?_
              first | (refine QL.yes rfl rfl rfl ?_; refine QL.val rfl (fun w hs => run_nilCheck rfl) ?_) | refine QL.no rfl rfl rfl (.inl rfl) ?_ | refine QL.no rfl rfl rfl (.inr rfl) ?_
              first | (refine QL.yes rfl rfl rfl ?_; refine QL.val rfl (fun w hs => run_field (o' := 1) Tryd.underlying81 rfl ty78 rfl rfl rfl) ?_) | refine QL.no rfl rfl rfl (.inl rfl) ?_ | refine QL.no rfl rfl rfl (.inr rfl) ?_
              refine QL.yes rfl rfl rfl ?_
              refine QL.val rfl (fun w hs => run_load1 ty78 rfl ((hat (hlw hs)).cell (j := 1) rfl)) ?_
              first | (refine QL.yes rfl rfl rfl ?_; refine QL.val rfl (fun w hs => run_move) ?_) | refine QL.no rfl rfl rfl (.inl rfl) ?_ | refine QL.no rfl rfl rfl (.inr rfl) ?_
              refine QL.yes rfl rfl rfl ?_
              refine QL.val rfl (fun w hs => run_lookupSE Tryd.underlying78 Tryd.underlying9 (zDir _) (hvU) rfl rfl (o.md_ (hlw hs))) ?_
              first | (refine QL.yes rfl rfl rfl ?_; refine QL.val rfl (fun w hs => run_nilCheck rfl) ?_) | refine QL.no rfl rfl rfl (.inl rfl) ?_ | refine QL.no rfl rfl rfl (.inr rfl) ?_
              first | (refine QL.yes rfl rfl rfl ?_; refine QL.val rfl (fun w hs => run_field (o' := 1) Tryd.underlying77 rfl ty3 rfl rfl rfl) ?_) | refine QL.no rfl rfl rfl (.inl rfl) ?_ | refine QL.no rfl rfl rfl (.inr rfl) ?_
              refine QL.yes rfl rfl rfl ?_
              refine QL.val rfl (fun w hs => run_load1 ty3 rfl ((o.dat (hlw hs) hr).cell (j := 1) rfl)) ?_
              refine QL.yes rfl rfl rfl ?_
              refine QL.val rfl (fun w hs => run_bF (run_geq rfl rfl) (by omega)) ?_
              first | refine QL.val rfl (fun w hs => run_pickT rfl) ?_ | refine QL.val rfl (fun w hs => run_pickF rfl) ?_
              refine QL.nil (fun w hs => ?_)
              repeat (first | refine CW.seq ?_ | refine CW.block ?_ | refine CW.skip ?_ | refine CW.label ?_ | refine CW.exit ?_)
              first | refine CW.condP rfl (fun h => ?_) (fun h => ?_) | refine CW.cond rfl (fun h => ?_) (fun h => ?_)
              · cases h
              by_cases ho : s.qo ≤ (s.op : Int)
              · have e : (98 : Int) = res := by rw [← hfin, if_pos ho]
                repeat (first | refine CW.seq ?_ | refine CW.block ?_ | refine CW.skip ?_ | refine CW.label ?_ | refine CW.exit ?_ | refine CW.condT rfl ?_ | refine CW.condF rfl ?_)
                refine CW.quiet mixedP (by kernel_rfl) hs ?_
                refine QL.val rfl (fun w hs => run_move) ?_
                refine QL.val rfl (fun w hs => run_nilCheck rfl) ?_
                refine QL.val rfl (fun w hs => run_field (o' := 7) Tryd.underlying81 rfl ty3 rfl rfl rfl) ?_
                refine QL.val rfl (fun w hs => run_load1 ty3 rfl ((hat (hlw hs)).cell (j := 7) rfl)) ?_
                refine QL.val rfl (fun w hs => run_move) ?_
                refine QL.val rfl (fun w hs => run_nilCheck rfl) ?_
                refine QL.val rfl (fun w hs => run_field (o' := 3) Tryd.underlying81 rfl ty30 rfl rfl rfl) ?_
                refine QL.val rfl (fun w hs => run_field (o' := 2) Tryd.underlying30 rfl ty3 rfl rfl rfl) ?_
                refine QL.val rfl (fun w hs => run_load1 ty3 rfl ((hat (hlw hs)).cell (j := 5) rfl)) ?_
                refine QL.val rfl (fun w hs => run_bT (run_geq rfl rfl) (by omega)) ?_
                refine QL.nil (fun w hs => ?_)
                repeat (first | refine CW.seq ?_ | refine CW.block ?_ | refine CW.skip ?_ | refine CW.label ?_ | refine CW.exit ?_)
                first | refine CW.condP rfl (fun h => ?_) (fun h => ?_) | refine CW.cond rfl (fun h => ?_) (fun h => ?_)
                · repeat (first | refine CW.seq ?_ | refine CW.block ?_ | refine CW.skip ?_ | refine CW.label ?_ | refine CW.exit ?_ | refine CW.condT rfl ?_ | refine CW.condF rfl ?_)
                  refine CW.reg ?_
                  refine WL.val rfl (run_assign) ?_
                  refine WL.nil ?_
                  repeat (first | refine CW.seq ?_ | refine CW.block ?_ | refine CW.skip ?_ | refine CW.label ?_ | refine CW.exit ?_ | refine CW.condT rfl ?_ | refine CW.condF rfl ?_)
                  refine CW.ret ?_
                  refine fin_ret1 rfl ?_
                  exact ⟨congrArg (fun b => Ending.returned (.int .i64 b)) e, hs⟩
                · cases h
              · have e : (0 : Int) = res := by rw [← hfin, if_neg ho]
                repeat (first | refine CW.seq ?_ | refine CW.block ?_ | refine CW.skip ?_ | refine CW.label ?_ | refine CW.exit ?_ | refine CW.condT rfl ?_ | refine CW.condF rfl ?_)
                refine CW.quiet mixedP (by kernel_rfl) hs ?_
                refine QL.val rfl (fun w hs => run_move) ?_
                refine QL.val rfl (fun w hs => run_nilCheck rfl) ?_
                refine QL.val rfl (fun w hs => run_field (o' := 7) Tryd.underlying81 rfl ty3 rfl rfl rfl) ?_
                refine QL.val rfl (fun w hs => run_load1 ty3 rfl ((hat (hlw hs)).cell (j := 7) rfl)) ?_
                refine QL.val rfl (fun w hs => run_move) ?_
                refine QL.val rfl (fun w hs => run_nilCheck rfl) ?_
                refine QL.val rfl (fun w hs => run_field (o' := 3) Tryd.underlying81 rfl ty30 rfl rfl rfl) ?_
                refine QL.val rfl (fun w hs => run_field (o' := 2) Tryd.underlying30 rfl ty3 rfl rfl rfl) ?_
                refine QL.val rfl (fun w hs => run_load1 ty3 rfl ((hat (hlw hs)).cell (j := 5) rfl)) ?_
                refine QL.val rfl (fun w hs => run_bF (run_geq rfl rfl) (by omega)) ?_
                refine QL.nil (fun w hs => ?_)
                repeat (first | refine CW.seq ?_ | refine CW.block ?_ | refine CW.skip ?_ | refine CW.label ?_ | refine CW.exit ?_)
                first | refine CW.condP rfl (fun h => ?_) (fun h => ?_) | refine CW.cond rfl (fun h => ?_) (fun h => ?_)
                · cases h
                repeat (first | refine CW.seq ?_ | refine CW.block ?_ | refine CW.skip ?_ | refine CW.label ?_ | refine CW.exit ?_ | refine CW.condT rfl ?_ | refine CW.condF rfl ?_)
                refine CW.reg ?_
                refine WL.val rfl (run_assign) ?_
                refine WL.nil ?_
                repeat (first | refine CW.seq ?_ | refine CW.block ?_ | refine CW.skip ?_ | refine CW.label ?_ | refine CW.exit ?_ | refine CW.condT rfl ?_ | refine CW.condF rfl ?_)
                refine CW.ret ?_
                refine fin_ret1 rfl ?_
                exact ⟨congrArg (fun b => Ending.returned (.int .i64 b)) e, hs⟩
        · cases h
      · cases h
end
end Go.Gx
