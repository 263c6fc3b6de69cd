/- Files in memory: a file opened, a handle laid. No program in sight. -/
import Derived.Test.YtepaojbhjgefiaaDoorVs15
namespace Go.Gx
open Go.Proofs
set_option linter.unusedVariables false
set_option linter.unusedSimpArgs false
section
variable {P : Program} {n : Nat} {f : Slots} {ds : List Deferred} {w : World}
/-- A sequence with what holds between. -/
theorem CW.seqM {Q : Post} {x y : Code} (M : Slots → World → Prop) (h : CW P x (thenC (fun f' ds' w' => ds' = ds ∧ M f' w') Q) n f ds w) (hr : ∀ f' w', M f' w' → CW P y Q n f' ds w') : CW P (.seq x y) Q n f ds w :=
  CW.seq (h.mono fun e f' ds' w' hq => by
    cases e with
    | normal =>
      obtain ⟨rfl, hM⟩ := hq
      exact hr _ _ hM
    | exit id => exact hq
    | goto id => exact hq
    | ret => exact hq
    | panic ch => exact hq
    | outgrown => exact hq)
end
theorem Step.zero {S : List Nat} {L : List (Nat × Obj)} {w0 w : World} (hs : Step S L w0 w) (h0 : 0 ∉ S) (hg : Gl w0) : 0 ∉ L.map (·.1) := fun hm => by
  have hobt := List.mem_map.1 hm
  obtain ⟨p, hp, e⟩ := hobt
  have h1 := hs.new p hp
  have h2 := hg.pos
  rcases h1 with h1 | h1
  · exact h0 (by rw [← e]; exact h1)
  · rw [e] at h1
    omega
theorem clean_isClean {s : List UInt8} (h : cleanE s = 0) : isCleanL (cleanS s) = true := by
  by_cases hbig : 4096 < s.length
  · have hc := clean_err (s := s) (e := 2) (by unfold cleanR; rw [if_pos hbig])
    rw [hc.2] at h
    exact absurd h (by decide)
  · cases hgo : cleanGo (partsL s) [] with
    | error e =>
      have hc := clean_err (s := s) (e := e) (by unfold cleanR; rw [if_neg hbig, hgo])
      rw [hc.2] at h
      exact absurd h (cleanGo_err hgo)
    | ok row =>
      by_cases h32 : 32 < row.length
      · have hc := clean_err (s := s) (e := 33) (by unfold cleanR; rw [if_neg hbig, hgo]; exact if_pos h32)
        rw [hc.2] at h
        exact absurd h (by decide)
      · have hc := clean_ok (s := s) (p := joinL row) (by unfold cleanR; rw [if_neg hbig, hgo]; exact if_neg h32)
        rw [hc.1]
        exact (named_clean (cleanGo_named (fun p hp => by cases hp) hgo) (by omega)).1
theorem ups_le : ∀ (t pre u : List UInt8), u ∈ upsF pre t → u.length ≤ pre.length + t.length
  | [], pre, u, h => by rw [upsF] at h; cases h
  | c :: t, pre, u, h => by
    rw [upsF] at h
    have e : (pre ++ [c]).length = pre.length + 1 := by simp
    split at h
    · rcases List.mem_cons.1 h with h1 | h1
      · rw [h1]; exact Nat.le_add_right _ _
      · have := ups_le t (pre ++ [c]) u h1
        rw [List.length_cons]
        omega
    · have := ups_le t (pre ++ [c]) u h
      rw [List.length_cons]
      omega
def bVal (bs : List Nat) : Option Nat → Value
  | none => .pointer none
  | some i => .pointer ((bs[i]?).map fun b => ⟨b, 0, none⟩)
theorem fVal_b (Fs : List FB) (x : Option Nat) : fVal Fs x = bVal (Fs.map (·.b)) x := by
  cases x with
  | none => rfl
  | some i =>
    simp only [fVal, bVal, List.getElem?_map]
    cases Fs[i]? <;> rfl
theorem file_foldDir : ∀ (M : List (List UInt8)) (s : VS) (u : List UInt8), (M.foldl VS.addDir s).file u = s.file u := fun M s u => by
  unfold VS.file
  rw [(foldDir_F M s).1]
theorem file_addFile {s : VS} {d x : List UInt8} (h : (s.dir (splitR d).1).isSome) (hn : s.file d = none) : (s.addFile d x).file d = some s.F.length ∧ (s.addFile d x).F = s.F ++ [(d, x)] ∧ (s.addFile d x).by_ = s.by_ + x.length := by
  have hobt := Option.isSome_iff_exists.1 h
  obtain ⟨j, hj⟩ := hobt
  have e : s.addFile d x = { s.bump j with F := s.F ++ [(d, x)], by_ := s.by_ + x.length } := by unfold VS.addFile; rw [hj]
  have hn2 : s.F.findIdx? (fun e : List UInt8 × List UInt8 => decide (e.1 = d)) = none := hn
  refine ⟨?_, by rw [e], by rw [e]⟩
  have e2 : (s.addFile d x).file d = (s.F ++ [(d, x)]).findIdx? (fun e : List UInt8 × List UInt8 => decide (e.1 = d)) := by rw [e]; rfl
  rw [e2, List.findIdx?_append, hn2]
  simp [List.findIdx?_cons]
theorem len_le_sum : ∀ (l : List (List UInt8 × List UInt8)) (i : Nat), ((l[i]?).map (·.2.length)).getD 0 ≤ (l.map (·.2.length)).sum
  | [], i => by simp
  | a :: l, 0 => by simp
  | a :: l, i + 1 => by
    have := len_le_sum l i
    simp only [List.getElem?_cons_succ, List.map_cons, List.sum_cons]
    omega
theorem put1_len {s : VS} (hs : s.by_ = (s.F.map (·.2.length)).sum) {q : List UInt8} {M : List (List UInt8)} {x : Option Nat} (hx : s.file q = x) (hp : ((M.foldl VS.addDir s).dir (splitR q).1).isSome) : (s.put1 q M x).1.len (s.put1 q M x).2 ≤ (s.put1 q M x).1.by_ := by
  have hobt := foldDir_F M s
  obtain ⟨f1, f2, _⟩ := hobt
  cases x with
  | some i =>
    show (M.foldl VS.addDir s).len i ≤ (M.foldl VS.addDir s).by_
    unfold VS.len
    rw [f1, f2, hs]
    exact len_le_sum s.F i
  | none =>
    have hobt := file_addFile (x := []) hp (by rw [file_foldDir]; exact hx)
    obtain ⟨_, h2, h3⟩ := hobt
    show ((M.foldl VS.addDir s).addFile q []).len (M.foldl VS.addDir s).F.length ≤ ((M.foldl VS.addDir s).addFile q []).by_
    unfold VS.len
    rw [h2]
    simp
section
variable {α : Type}
theorem perm_h1 {x a b c : α} {l R : List α} : (x :: a :: b :: c :: (l ++ R)).Perm (l ++ (a :: b :: c :: x :: R)) := by
  classical
  exact List.perm_iff_count.2 fun y => by
    simp only [List.count_append, List.count_cons, List.count_nil]
    omega
theorem perm_h2 {x a b c : α} {l R : List α} : (l ++ (a :: b :: c :: x :: R)).Perm (a :: l ++ (b :: c :: x :: R)) := by
  classical
  exact List.perm_iff_count.2 fun y => by
    simp only [List.count_append, List.count_cons, List.count_nil, List.cons_append]
    omega
theorem perm_h3 {x a b c d : α} {R : List α} : (a :: d :: b :: c :: x :: R).Perm (x :: a :: d :: b :: c :: R) := by
  classical
  exact List.perm_iff_count.2 fun y => by
    simp only [List.count_append, List.count_cons, List.count_nil, List.cons_append]
    omega
theorem perm_h4 {a b c d : α} {R : List α} : (a :: b :: c :: d :: R).Perm (a :: d :: b :: c :: R) := by
  classical
  exact List.perm_iff_count.2 fun y => by
    simp only [List.count_append, List.count_cons, List.count_nil, List.cons_append]
    omega
theorem perm_cut {a b : α} {l R U : List α} : (a :: b :: ((l ++ R) ++ U)).Perm (l ++ (a :: b :: (R ++ U))) := by
  classical
  exact List.perm_iff_count.2 fun y => by
    simp only [List.count_append, List.count_cons, List.count_nil]
    omega
end
section
variable {bf mf md : Nat} {s : VS} {L Lh : List (Nat × Obj)} {vh : Value} {Fs : List FB} {Ds : List DB} {Hs : List (Option HB)} {w0 : World}
def restF (mf md : Nat) (Lh : List (Nat × Obj)) (Fs : List FB) (Ds : List DB) (Hs : List (Option HB)) (i : Nat) : List (Nat × Obj) := (mf, mapS (mapF Fs 0) Fs.length) :: (md, mapS (mapDi Ds 0) Ds.length) :: (Lh ++ ((Fs.eraseIdx i).flatMap FB.own ++ (Ds.flatMap DB.own ++ Hs.flatMap HB.own)))
theorem VOpen.openF (o : VOpen bf s L mf md vh Lh Fs Ds Hs) {i : Nat} {r : FB} (hr : Fs[i]? = some r) :
    L.Perm ((r.b, blk 89 [str r.p, r.v]) :: (bf, blk 81 (fsC mf md vh s)) :: (r.Lv ++ restF mf md Lh Fs Ds Hs i)) := by
  classical
  have h1 := flat_open (f := FB.own) hr
  rw [o.L]
  refine List.perm_iff_count.2 fun x => ?_
  have e1 := h1.count_eq x
  simp only [restF, FB.own, List.count_append, List.count_cons, List.count_nil] at e1 ⊢
  omega
/-- A file made empty. -/
theorem VOpen.setF (o : VOpen bf s L mf md vh Lh Fs Ds Hs) {i : Nat} {r : FB} (hr : Fs[i]? = some r) :
    ∃ L', VOpen bf (s.trunc i) L' mf md vh Lh (Fs.set i { r with v := .slice none 0 0, x := [], Lv := [] }) Ds Hs ∧ ((r.b, blk 89 [str r.p, .slice none 0 0]) :: (bf, blk 81 (fsC mf md vh (s.trunc i))) :: restF mf md Lh Fs Ds Hs i).Perm L' := by
  classical
  have hlr := (List.getElem?_eq_some_iff.1 hr).1
  let r2 : FB := { r with v := .slice none 0 0, x := [], Lv := [] }
  have h1 := flat_shut (f := FB.own) (a := r2) hlr
  refine ⟨_, ⟨rfl, o.vh, ?_, ?_, ?_, o.D, o.H⟩, ?_⟩
  · intro c hc
    rcases List.mem_or_eq_of_mem_set hc with h | h
    · exact o.fs c h
    · subst h
      exact .nil _ _
  · intro h hm
    have hobt := o.hs h hm
    obtain ⟨r', e1, e2⟩ := hobt
    by_cases he : i = h.i
    · rw [← he] at e1 ⊢
      rw [hr] at e1
      cases e1
      exact ⟨r2, List.getElem?_set_self hlr, e2⟩
    · exact ⟨r', by rw [List.getElem?_set_ne he]; exact e1, e2⟩
  · show (Fs.set i r2).map _ = s.F.set i _
    rw [List.map_set, o.F, o.pth_ hr]
  · refine List.perm_iff_count.2 fun x => ?_
    have e1 := h1.count_eq x
    have e3 : mapF (Fs.set i { r with v := .slice none 0 0, x := [], Lv := [] }) 0 = mapF Fs 0 := mapF_set Fs 0 i r r2 hr rfl rfl
    simp only [restF, FB.own, fsC, VS.trunc, List.count_append, List.count_cons, List.count_nil, List.length_set, e3] at e1 ⊢
    simp only [r2, List.count_nil] at e1 ⊢
    omega
theorem flat_none {Hs : List (Option HB)} {k : Nat} (h : Hs[k]? = some none) (hb : HB) : ((Hs.set k (some hb)).flatMap HB.own).Perm ((hb.b, blk 93 [.pointer (some ⟨hb.fb, 0, none⟩), .int .i64 (hb.pl : Nat), .int .i64 (hb.mo : Nat)]) :: Hs.flatMap HB.own) := by
  have hl := (List.getElem?_eq_some_iff.1 h).1
  have h1 := flat_shut (f := HB.own) (a := some hb) hl
  have h2 := flat_open (f := HB.own) h
  refine h1.symm.trans ?_
  exact List.Perm.cons _ (h2.symm.trans (List.Perm.refl _))
/-- A handle laid where there is none. -/
theorem VOpen.grabH (o : VOpen bf s L mf md vh Lh Fs Ds Hs) {Hs2 : List (Option HB)} {k i b bn bl cap mo : Nat} {more : List Value} {r : FB} (hr : Fs[i]? = some r) (hH2 : Hs2 = Hs ∨ Hs2 = Hs ++ [none] ∧ k = Hs.length) (hk : Hs2[k]? = some none) (hks : k = s.slotI) (hcap : (Hs2.map HB.val ++ more).length = cap * 1) {L'' : List (Nat × Obj)}
    (hL : L''.Perm ((bn, blk 93 [.pointer (some ⟨r.b, 0, none⟩), .int .i64 ((0 : Nat) : Int), .int .i64 (mo : Nat)]) :: (bf, blk 81 (fsC mf md (.slice (some ⟨bl, 0, none⟩) Hs2.length cap) { s with op := s.op + 1 })) :: (bl, blk 91 ((Hs2.map HB.val).set k (.pointer (some ⟨bn, 0, none⟩)) ++ more)) :: (mf, mapS (mapF Fs 0) Fs.length) :: (md, mapS (mapDi Ds 0) Ds.length) :: (Fs.flatMap FB.own ++ (Ds.flatMap DB.own ++ Hs.flatMap HB.own)))) :
    ∃ L', VRep bf (s.grab i mo) L' ∧ L''.Perm L' := by
  classical
  let hb : HB := ⟨bn, r.b, i, 0, mo⟩
  have hlt := (List.getElem?_eq_some_iff.1 hk).1
  have h1 := flat_none hk hb
  have hfl : Hs2.flatMap HB.own = Hs.flatMap HB.own := by
    rcases hH2 with h | ⟨h, _⟩
    · rw [h]
    · rw [h, List.flatMap_append]; simp [HB.own]
  have hHl : Hs.length = s.H.length := by rw [← o.H, List.length_map]
  refine ⟨_, ⟨mf, md, .slice (some ⟨bl, 0, none⟩) Hs2.length cap, [(bl, blk 91 ((Hs2.set k (some hb)).map HB.val ++ more))], Fs, Ds, Hs2.set k (some hb), ⟨rfl, ?_, o.fs, ?_, o.F, o.D, ?_⟩⟩, hL.trans ?_⟩
  · rw [List.length_set]
    refine ⟨by simp, .inr ⟨bl, cap, more, rfl, rfl, ?_⟩⟩
    rw [← hcap, List.length_append, List.length_append, List.length_map, List.length_map, List.length_set]
  · intro h hm
    rcases List.mem_or_eq_of_mem_set hm with h2 | h2
    · rcases hH2 with e | ⟨e, _⟩
      · exact o.hs h (e ▸ h2)
      · rw [e] at h2
        rcases List.mem_append.1 h2 with h3 | h3
        · exact o.hs h h3
        · simp at h3
    · cases h2
      exact ⟨r, hr, rfl⟩
  · have hgr : (s.grab i mo).H = if k < s.H.length then s.H.set k (some (i, 0, mo)) else s.H ++ [some (i, 0, mo)] := by rw [hks]; rfl
    rw [hgr, List.map_set]
    rcases hH2 with e | ⟨e, ek⟩
    · rw [e] at hlt ⊢
      rw [if_pos (by omega), o.H]
      rfl
    · rw [if_neg (by omega), e, List.map_append, o.H, ek, hHl, List.set_append_right _ _ (Nat.le_refl _)]
      simp [hb]
  · refine List.perm_iff_count.2 fun x => ?_
    have e1 := h1.count_eq x
    rw [hfl] at e1
    have e2 : (Hs2.set k (some hb)).map HB.val = (Hs2.map HB.val).set k (.pointer (some ⟨bn, 0, none⟩)) := by rw [List.map_set]; rfl
    simp only [e2, fsC, VS.grab, List.count_append, List.count_cons, List.count_nil, List.length_set] at e1 ⊢
    simp only [hb] at e1 ⊢
    omega
end
end Go.Gx
