/- Files in memory: add. -/
import Derived.Test.YtepaojbhjgefiaaDoorVs9
namespace Go.Gx
open Go.Proofs
set_option linter.unusedVariables false
set_option linter.unusedSimpArgs false
set_option maxRecDepth 100000
theorem Gl.pos {w : World} (h : Gl w) : 0 < w.heap.size := by
  obtain ⟨m, hm⟩ := h
  unfold World.cell? at hm
  split at hm
  · rename_i hb; exact lt_of_get hb
  · cases hm
theorem Gl.stepS {S : List Nat} {L : List (Nat × Obj)} {w w' : World} (h : Gl w) (hs : Step S L w w') (h0 : 0 ∉ S) : Gl w' := by
  have hlt := h.pos
  obtain ⟨m, hm⟩ := h
  refine ⟨m, ?_⟩
  rw [cell_of_heap (hs.chg.block 0 hlt h0)]
  exact hm
/-- A directory's count, one more. -/
def VS.bump (s : VS) (j : Nat) : VS := { s with D := s.D.modify j fun e => (e.1, e.2 + 1) }
def VS.addDir (s : VS) (d : List UInt8) : VS := match s.dir (splitR d).1 with
  | none => s
  | some j => { s.bump j with D := (s.bump j).D ++ [(d, 0)] }
def VS.addFile (s : VS) (d x : List UInt8) : VS := match s.dir (splitR d).1 with
  | none => s
  | some j => { s.bump j with F := s.F ++ [(d, x)], by_ := s.by_ + x.length }
def itC (p : List UInt8) (dir : Bool) (v : Value) : List Value := [str p, .bool dir, v]
theorem mapF_app (r : FB) : ∀ (Fs : List FB) (k : Nat), mapF (Fs ++ [r]) k = mapF Fs k ++ [(r.p, .pointer (some ⟨r.b, 0, none⟩), k + Fs.length)]
  | [], k => rfl
  | a :: l, k => by rw [List.cons_append, mapF, mapF_app r l (k + 1), mapF, List.length_cons, List.cons_append, show k + 1 + l.length = k + (l.length + 1) by omega]
theorem mapDi_app (r : DB) : ∀ (Ds : List DB) (k : Nat), mapDi (Ds ++ [r]) k = mapDi Ds k ++ [(r.p, .pointer (some ⟨r.b, 0, none⟩), k + Ds.length)]
  | [], k => rfl
  | a :: l, k => by rw [List.cons_append, mapDi, mapDi_app r l (k + 1), mapDi, List.length_cons, List.cons_append, show k + 1 + l.length = k + (l.length + 1) by omega]
theorem mapDi_set : ∀ (Ds : List DB) (k i : Nat) (r r' : DB), Ds[i]? = some r → r'.p = r.p → r'.b = r.b → mapDi (Ds.set i r') k = mapDi Ds k
  | [], _, _, _, _, h, _, _ => by simp at h
  | a :: l, k, 0, r, r', h, h1, h2 => by
    simp only [List.getElem?_cons_zero, Option.some.injEq] at h
    subst h
    simp only [List.set_cons_zero, mapDi, h1, h2]
  | a :: l, k, i + 1, r, r', h, h1, h2 => by
    rw [List.getElem?_cons_succ] at h
    simp only [List.set_cons_succ, mapDi, mapDi_set l (k + 1) i r r' h h1 h2]
theorem findF_none {p : List UInt8} : ∀ (Fs : List FB) (k n : Nat), (Fs.map fun r => (r.p, r.x)).findIdx? (fun e => decide (e.1 = p)) = none → findS p (mapF Fs k) n = none
  | [], _, _, _ => rfl
  | r :: l, k, n, h => by
    rw [List.map_cons, List.findIdx?_cons] at h
    by_cases he : r.p = p
    · simp [he] at h
    · rw [mapF, findS, if_neg (fun e => he (Eq.symm e))]
      refine findF_none l (k + 1) (n + 1) ?_
      simp only [he, decide_false] at h
      simpa using h
theorem findD_none {p : List UInt8} : ∀ (Ds : List DB) (k n : Nat), (Ds.map fun r => (r.p, r.n)).findIdx? (fun e => decide (e.1 = p)) = none → findS p (mapDi Ds k) n = none
  | [], _, _, _ => rfl
  | r :: l, k, n, h => by
    rw [List.map_cons, List.findIdx?_cons] at h
    by_cases he : r.p = p
    · simp [he] at h
    · rw [mapDi, findS, if_neg (fun e => he (Eq.symm e))]
      refine findD_none l (k + 1) (n + 1) ?_
      simp only [he, decide_false] at h
      simpa using h
section
variable {bf mf md : Nat} {s : VS} {L Lh : List (Nat × Obj)} {vh : Value} {Fs : List FB} {Ds : List DB} {Hs : List (Option HB)} {w0 : World}
def restD (mf : Nat) (Lh : List (Nat × Obj)) (Fs : List FB) (Ds : List DB) (Hs : List (Option HB)) (j : Nat) : List (Nat × Obj) := (mf, mapS (mapF Fs 0) Fs.length) :: (Lh ++ (Fs.flatMap FB.own ++ ((Ds.eraseIdx j).flatMap DB.own ++ Hs.flatMap HB.own)))
theorem VOpen.openD (o : VOpen bf s L mf md vh Lh Fs Ds Hs) {j : Nat} {r : DB} (hr : Ds[j]? = some r) :
    L.Perm ((r.b, blk 77 [str r.p, .int .i64 (r.n : Nat)]) :: (bf, blk 81 (fsC mf md vh s)) :: (md, mapS (mapDi Ds 0) Ds.length) :: restD mf Lh Fs Ds Hs j) := by
  classical
  have h1 := flat_open (f := DB.own) hr
  rw [o.L]
  refine List.perm_iff_count.2 fun x => ?_
  have e1 := h1.count_eq x
  simp only [restD, DB.own, List.count_append, List.count_cons, List.count_nil] at e1 ⊢
  omega
theorem VOpen.setD (o : VOpen bf s L mf md vh Lh Fs Ds Hs) {j : Nat} {r : DB} (hr : Ds[j]? = some r) :
    ∃ L', VOpen bf (s.bump j) L' mf md vh Lh Fs (Ds.set j { r with n := r.n + 1 }) Hs ∧ ((r.b, blk 77 [str r.p, .int .i64 (r.n + 1 : Nat)]) :: (bf, blk 81 (fsC mf md vh s)) :: (md, mapS (mapDi Ds 0) Ds.length) :: restD mf Lh Fs Ds Hs j).Perm L' := by
  classical
  have hlt := (List.getElem?_eq_some_iff.1 hr).1
  have h1 := flat_shut (f := DB.own) (a := { r with n := r.n + 1 }) hlt
  refine ⟨_, ⟨rfl, o.vh, o.fs, o.hs, o.F, ?_, o.H⟩, ?_⟩
  · show _ = s.D.modify j _
    rw [← o.D]
    apply List.ext_getElem?
    intro i
    rw [List.getElem?_modify, List.getElem?_map, List.getElem?_map]
    by_cases h : j = i
    · subst h
      rw [List.getElem?_set_self hlt, hr]
      simp
    · rw [List.getElem?_set_ne h]
      simp [h]
  · refine List.perm_iff_count.2 fun x => ?_
    have e1 := h1.count_eq x
    have e3 : mapDi (Ds.set j { r with n := r.n + 1 }) 0 = mapDi Ds 0 := mapDi_set Ds 0 j r _ hr rfl rfl
    simp only [restD, VS.bump, fsC, DB.own, List.count_append, List.count_cons, List.count_nil, List.length_set, e3] at e1 ⊢
    omega
/-- A new directory. -/
theorem VOpen.newD (o : VOpen bf s L mf md vh Lh Fs Ds Hs) {d : List UInt8} (hd : s.dir d = none) (b : Nat) {L'' : List (Nat × Obj)}
    (hL : L''.Perm ((b, blk 77 [str d, .int .i64 ((0 : Nat) : Int)]) :: (bf, blk 81 (fsC mf md vh s)) :: (mf, mapS (mapF Fs 0) Fs.length) :: (md, mapS (putMS d (.pointer (some ⟨b, 0, none⟩)) Ds.length (mapDi Ds 0)) (putCS d Ds.length (mapDi Ds 0))) :: (Lh ++ (Fs.flatMap FB.own ++ (Ds.flatMap DB.own ++ Hs.flatMap HB.own))))) :
    ∃ L', VOpen bf { s with D := s.D ++ [(d, 0)] } L' mf md vh Lh Fs (Ds ++ [⟨d, b, 0⟩]) Hs ∧ L''.Perm L' := by
  classical
  have hf : findS d (mapDi Ds 0) 0 = none := findD_none Ds 0 0 (by rw [o.D]; exact hd)
  rw [show putMS d (.pointer (some ⟨b, 0, none⟩)) Ds.length (mapDi Ds 0) = mapDi (Ds ++ [⟨d, b, 0⟩]) 0 by rw [putMS, hf, mapDi_app, Nat.zero_add]; rfl, show putCS d Ds.length (mapDi Ds 0) = (Ds ++ [(⟨d, b, 0⟩ : DB)]).length by rw [putCS, hf, List.length_append]; rfl] at hL
  refine ⟨_, ⟨rfl, o.vh, o.fs, o.hs, o.F, ?_, o.H⟩, hL.trans ?_⟩
  · show _ = s.D ++ [(d, 0)]
    rw [List.map_append, o.D]
    rfl
  · refine List.perm_iff_count.2 fun x => ?_
    simp only [fsC, DB.own, List.flatMap_append, List.flatMap_cons, List.flatMap_nil, List.count_append, List.count_cons, List.count_nil]
    omega
/-- A new file. -/
theorem VOpen.newF (o : VOpen bf s L mf md vh Lh Fs Ds Hs) {d x : List UInt8} (hd : s.file d = none) (b by' : Nat) {v : Value} {Lv L'' : List (Nat × Obj)} (hv : OwnSl 5 1 v x.length (u8s x) Lv)
    (hL : L''.Perm ((b, blk 89 [str d, v]) :: (bf, blk 81 (fsC mf md vh { s with by_ := by' })) :: (mf, mapS (putMS d (.pointer (some ⟨b, 0, none⟩)) Fs.length (mapF Fs 0)) (putCS d Fs.length (mapF Fs 0))) :: (md, mapS (mapDi Ds 0) Ds.length) :: (Lv ++ (Lh ++ (Fs.flatMap FB.own ++ (Ds.flatMap DB.own ++ Hs.flatMap HB.own)))))) :
    ∃ L', VOpen bf { s with F := s.F ++ [(d, x)], by_ := by' } L' mf md vh Lh (Fs ++ [⟨d, b, v, x, Lv⟩]) Ds Hs ∧ L''.Perm L' := by
  classical
  have hf : findS d (mapF Fs 0) 0 = none := findF_none Fs 0 0 (by rw [o.F]; exact hd)
  rw [show putMS d (.pointer (some ⟨b, 0, none⟩)) Fs.length (mapF Fs 0) = mapF (Fs ++ [⟨d, b, v, x, Lv⟩]) 0 by rw [putMS, hf, mapF_app, Nat.zero_add]; rfl, show putCS d Fs.length (mapF Fs 0) = (Fs ++ [(⟨d, b, v, x, Lv⟩ : FB)]).length by rw [putCS, hf, List.length_append]; rfl] at hL
  refine ⟨_, ⟨rfl, o.vh, ?_, ?_, ?_, o.D, o.H⟩, hL.trans ?_⟩
  · intro c hc
    rcases List.mem_append.1 hc with h | h
    · exact o.fs c h
    · rw [List.mem_singleton.1 h]
      exact hv
  · intro h hm
    have hobt := o.hs h hm
    obtain ⟨r, e1, e2⟩ := hobt
    exact ⟨r, by rw [List.getElem?_append_left (List.getElem?_eq_some_iff.1 e1).1]; exact e1, e2⟩
  · show _ = s.F ++ [(d, x)]
    rw [List.map_append, o.F]
    rfl
  · refine List.perm_iff_count.2 fun x => ?_
    simp only [fsC, FB.own, List.flatMap_append, List.flatMap_cons, List.flatMap_nil, List.count_append, List.count_cons, List.count_nil]
    omega
end
end Go.Gx
