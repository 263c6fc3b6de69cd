/- Files in memory: Read. -/
import Derived.Test.YtepaojbhjgefiaaDoorVs5
namespace Go.Gx
open Go.Proofs
set_option linter.unusedVariables false
set_option linter.unusedSimpArgs false
set_option maxRecDepth 100000
theorem run_nilSl {P : Program} {f : Slots} {w : World} {d : Option Tmp} {ty : TypeId} {pos : String} {af : Array Edge} {x : Operand} {T T' E : TypeId} {a : Option Addr} {n c : Nat} (ht : P.underlying T = some (.slice E)) (hx : ev f x = .slice a n c) :
    (execOp (ev f) ⟨d, .binOp .eql T x (.const (.slice none 0 0)) T', ty, pos, af, none⟩).run P w = .ok (.value (.bool a.isNone)) w := by
  have h := run_equal_slice_nil (P := P) w T E a n c ht
  have e : ev f (.const (.slice none 0 0)) = .slice none 0 0 := rfl
  simp [execOp, hx, e, eqGuard_at_slice, binOp, h]
theorem clone_spec {v : Value} {s : List UInt8} (w0 : World) (hv : Sl w0 1 v s.length (u8s s)) (hs1 : s.length ≤ 140737488355328) :
    Calls Tryd.prog 37 #[v] w0 fun e w' => ∃ v' Lv, e = .returned v' ∧ OwnSl 5 1 v' s.length (u8s s) Lv ∧ Step [] Lv w0 w' := by
  have hs : Step [] [] w0 w0 := Step.refl w0
  have hcase : (s = [] ∧ ∃ c, v = .slice none s.length c) ∨ ∃ A c, v = .slice (some A) s.length c := by
    have hobt := id hv
    obtain ⟨_, ⟨a, c, rfl, h0⟩ | ⟨b, off, c, rfl, hat⟩⟩ := hobt
    · cases a with
      | none => exact .inl ⟨List.eq_nil_of_length_eq_zero h0, _, rfl⟩
      | some A => exact .inr ⟨_, _, rfl⟩
    · exact .inr ⟨_, _, rfl⟩
  obtain ⟨rfl, c, rfl⟩ | ⟨A, c, rfl⟩ := hcase
  · skip
    refine calls (n := 8) Tryd.func37 rfl rfl rfl ?_
    repeat (first | refine CW.seq ?_ | refine CW.block ?_ | refine CW.skip ?_ | refine CW.label ?_ | refine CW.exit ?_ | refine CW.condT rfl ?_ | refine CW.condF rfl ?_)
    refine CW.reg ?_
    refine WL.val rfl (run_assign) ?_
    refine WL.nil ?_
    repeat (first | refine CW.seq ?_ | refine CW.block ?_ | refine CW.skip ?_ | refine CW.label ?_ | refine CW.exit ?_ | refine CW.condT rfl ?_ | refine CW.condF rfl ?_)
    refine CW.reg ?_
    refine WL.val rfl (run_move) ?_
    refine WL.val rfl (run_nilSl Tryd.underlying34 rfl) ?_
    refine WL.nil ?_
    repeat (first | refine CW.seq ?_ | refine CW.block ?_ | refine CW.skip ?_ | refine CW.label ?_ | refine CW.exit ?_ | refine CW.condT rfl ?_ | refine CW.condF rfl ?_)
    refine CW.reg ?_
    refine WL.val rfl (run_assign) ?_
    refine WL.nil ?_
    repeat (first | refine CW.seq ?_ | refine CW.block ?_ | refine CW.skip ?_ | refine CW.label ?_ | refine CW.exit ?_ | refine CW.condT rfl ?_ | refine CW.condF rfl ?_)
    refine CW.ret ?_
    refine fin_ret1 rfl ?_
    exact ⟨_, [], rfl, .nil _ _, hs⟩
  · refine calls (n := 8) Tryd.func37 rfl rfl rfl ?_
    repeat (first | refine CW.seq ?_ | refine CW.block ?_ | refine CW.skip ?_ | refine CW.label ?_ | refine CW.exit ?_ | refine CW.condT rfl ?_ | refine CW.condF rfl ?_)
    refine CW.reg ?_
    refine WL.val rfl (run_assign) ?_
    refine WL.nil ?_
    repeat (first | refine CW.seq ?_ | refine CW.block ?_ | refine CW.skip ?_ | refine CW.label ?_ | refine CW.exit ?_ | refine CW.condT rfl ?_ | refine CW.condF rfl ?_)
    refine CW.reg ?_
    refine WL.val rfl (run_move) ?_
    refine WL.val rfl (run_nilSl Tryd.underlying34 rfl) ?_
    refine WL.nil ?_
    repeat (first | refine CW.seq ?_ | refine CW.block ?_ | refine CW.skip ?_ | refine CW.label ?_ | refine CW.exit ?_ | refine CW.condT rfl ?_ | refine CW.condF rfl ?_)
    refine CW.reg ?_
    refine WL.buildSlice Tryd.underlying34 ty5 rfl (by decide) rfl (by rfl) rfl hs (fun b5 w hs => ?_)
    refine WL.val rfl (run_move) ?_
    refine WL.append Tryd.underlying34 Tryd.underlying34 ty5 rfl (by decide) rfl rfl (.mk (xs := []) rfl) (hs) (hv.step0 hs) (Cells1.u8s s) (by first | omega | (simp only [List.length_append, List.length_cons, List.length_nil]; omega)) rfl (fun v7 Lv7 w hv7 hs => ?_)
    refine WL.val rfl (run_assign) ?_
    refine WL.nil ?_
    repeat (first | refine CW.seq ?_ | refine CW.block ?_ | refine CW.skip ?_ | refine CW.label ?_ | refine CW.exit ?_ | refine CW.condT rfl ?_ | refine CW.condF rfl ?_)
    refine CW.ret ?_
    refine fin_ret1 rfl ?_
    refine ⟨_, _, rfl, ?_, hs.dropR⟩
    have h2 := hv7
    rw [Nat.zero_add, List.nil_append] at h2
    exact h2
def VS.data (s : VS) (i : Nat) : List UInt8 := ((s.F[i]?).map (·.2)).getD []
def VS.read (s : VS) (h n : Int) : List UInt8 × Int × VS :=
  if (s.peek h n).2 ≠ 0 ∨ (s.peek h n).1 = 0 then ([], (s.peek h n).2, s) else
  match s.is h with
  | none => ([], 0, s)
  | some (i, pl, mo) => (((s.data i).drop pl).take (s.peek h n).1.toNat, 0, { s with H := s.H.set h.toNat (some (i, pl + (s.peek h n).1.toNat, mo)) })
section
variable {bf mf md : Nat} {s : VS} {L Lh : List (Nat × Obj)} {vh : Value} {Fs : List FB} {Ds : List DB} {Hs : List (Option HB)} {w0 : World}
theorem VOpen.data_ (o : VOpen bf s L mf md vh Lh Fs Ds Hs) {i : Nat} {r : FB} (hr : Fs[i]? = some r) : s.data i = r.x := by
  unfold VS.data
  rw [← o.F, List.getElem?_map, hr]
  rfl
/-- A handle's block set. -/
theorem VOpen.setH (o : VOpen bf s L mf md vh Lh Fs Ds Hs) {k : Nat} {hb : HB} (hk : Hs[k]? = some (some hb)) (pl : Nat) :
    ∃ L', VRep bf { s with H := s.H.set k (some (hb.i, pl, hb.mo)) } L' ∧ ((hb.b, blk 93 [.pointer (some ⟨hb.fb, 0, none⟩), .int .i64 (pl : Nat), .int .i64 (hb.mo : Nat)]) :: (((bf, blk 81 (fsC mf md vh s)) :: (mf, mapS (mapF Fs 0) Fs.length) :: (md, mapS (mapDi Ds 0) Ds.length) :: (Lh ++ (Fs.flatMap FB.own ++ Ds.flatMap DB.own))) ++ (Hs.eraseIdx k).flatMap HB.own)).Perm L' := by
  have hlt := (List.getElem?_eq_some_iff.1 hk).1
  let hb2 : HB := { hb with pl := pl }
  have h6 := fun A => (List.perm_append_comm_assoc (HB.own (some hb2)) A ((Hs.eraseIdx k).flatMap HB.own)).trans ((flat_shut (f := HB.own) (a := some hb2) hlt).append_left A)
  have hval : (Hs.set k (some hb2)).map HB.val = Hs.map HB.val := by
    rw [List.map_set]
    apply List.ext_getElem?
    intro j
    by_cases hj : k = j
    · subst hj
      rw [List.getElem?_set_self (by simpa using hlt), List.getElem?_map, hk]
      rfl
    · rw [List.getElem?_set_ne hj]
  refine ⟨_, ⟨mf, md, vh, Lh, Fs, Ds, Hs.set k (some hb2), ?_⟩, h6 ((bf, blk 81 (fsC mf md vh s)) :: (mf, mapS (mapF Fs 0) Fs.length) :: (md, mapS (mapDi Ds 0) Ds.length) :: (Lh ++ (Fs.flatMap FB.own ++ Ds.flatMap DB.own)))⟩
  refine ⟨by simp [fsC, List.append_assoc], ?_, o.fs, ?_, o.F, o.D, ?_⟩
  · rw [List.length_set, hval]
    exact o.vh
  · intro h hm
    rcases List.mem_or_eq_of_mem_set hm with h1 | h1
    · exact o.hs h h1
    · cases h1
      exact o.hs hb (List.mem_of_getElem? hk)
  · show (Hs.set k (some hb2)).map _ = s.H.set k _
    rw [List.map_set, o.H]
    rfl
set_option maxHeartbeats 2000000 in
theorem read_spec (hR : VRep bf s L) (ok : s.Ok) (hw : Step (L.map (·.1)) L w0 w0) {h n : Int} (hn : -9223372036854775808 ≤ n ∧ n ≤ 9223372036854775807) : Calls Tryd.prog 16 #[.pointer (some ⟨bf, 0, none⟩), .int .i64 h, .int .i64 n] w0 fun e w' => ∃ v' Lv L', e = .returned (.tuple #[v', .int .i64 (s.read h n).2.1]) ∧ OwnSl 5 1 v' (s.read h n).1.length (u8s (s.read h n).1) Lv ∧ VRep bf (s.read h n).2.2 L' ∧ Step (L.map (·.1)) (Lv ++ L') w0 w' := by
  have hR0 := hR
  obtain ⟨mf, md, vh, Lh, Fs, Ds, Hs, o⟩ := hR
  have hs : Step (L.map (·.1)) L w0 w0 := hw
  by_cases hbad : (s.peek h n).2 ≠ 0 ∨ (s.peek h n).1 = 0
  · rw [show s.read h n = ([], (s.peek h n).2, s) by unfold VS.read; rw [if_pos hbad]]
    have hpk := fun {w} hw => peek_spec (w0 := w) (h := h) o ok hw hn
    have hobt : ∃ kz ez, s.peek h n = (kz, ez) := ⟨_, _, rfl⟩
    obtain ⟨kz, ez, hpe⟩ := hobt
    simp only [hpe] at hbad hpk ⊢
    by_cases he : ez = 0
    · have hk0 : kz = 0 := by
        rcases hbad with h1 | h1
        · exact absurd he h1
        · exact h1
      refine calls (n := 58) Tryd.func16 rfl rfl rfl ?_
      repeat (first | refine CW.seq ?_ | refine CW.block ?_ | refine CW.skip ?_ | refine CW.label ?_ | refine CW.exit ?_ | refine CW.condT rfl ?_ | refine CW.condF rfl ?_)
      refine CW.reg ?_
      refine WL.val rfl (run_assign) ?_
      refine WL.val rfl (run_assign) ?_
      refine WL.nil ?_
      repeat (first | refine CW.seq ?_ | refine CW.block ?_ | refine CW.skip ?_ | refine CW.label ?_ | refine CW.exit ?_ | refine CW.condT rfl ?_ | refine CW.condF rfl ?_)
      refine CW.reg ?_
      refine WL.val rfl (run_move) ?_
      refine WL.val rfl (run_move) ?_
      refine WL.val rfl (run_move) ?_
      refine WL.enter rfl (run_call en36 rfl rfl) (hpk hs.has) ?_
      rintro e w ⟨rfl, hq⟩
      refine ⟨_, rfl, ?_⟩
      replace hs := hs.callE hq
      refine WL.val rfl (run_move) ?_
      refine WL.val rfl (run_extract rfl rfl) ?_
      refine WL.val rfl (run_extract rfl rfl) ?_
      refine WL.val rfl (run_assign) ?_
      refine WL.val rfl (run_assign) ?_
      refine WL.nil ?_
      repeat (first | refine CW.seq ?_ | refine CW.block ?_ | refine CW.skip ?_ | refine CW.label ?_ | refine CW.exit ?_ | refine CW.condT rfl ?_ | refine CW.condF rfl ?_)
      refine CW.reg ?_
      refine WL.val rfl (run_move) ?_
      refine WL.val rfl (run_bF (run_neq rfl rfl) (by exact fun h => h he)) ?_
      refine WL.val rfl (run_move) ?_
      first | (refine WL.yes rfl rfl rfl ?_; refine WL.val rfl (run_move) ?_) | refine WL.no rfl rfl rfl (.inl rfl) ?_ | refine WL.no rfl rfl rfl (.inr rfl) ?_
      refine WL.yes rfl rfl rfl ?_
      refine WL.val rfl (run_bT (run_eql rfl rfl) (by exact hk0)) ?_
      first | refine WL.val rfl (run_pickT rfl) ?_ | refine WL.val rfl (run_pickF rfl) ?_
      refine WL.nil ?_
      repeat (first | refine CW.seq ?_ | refine CW.block ?_ | refine CW.skip ?_ | refine CW.label ?_ | refine CW.exit ?_)
      first | refine CW.condP rfl (fun h => ?_) (fun h => ?_) | refine CW.cond rfl (fun h => ?_) (fun h => ?_)
      · repeat (first | refine CW.seq ?_ | refine CW.block ?_ | refine CW.skip ?_ | refine CW.label ?_ | refine CW.exit ?_ | refine CW.condT rfl ?_ | refine CW.condF rfl ?_)
        refine CW.reg ?_
        refine WL.val rfl (run_move) ?_
        refine WL.val rfl (run_assign) ?_
        refine WL.val rfl (run_assign) ?_
        refine WL.nil ?_
        repeat (first | refine CW.seq ?_ | refine CW.block ?_ | refine CW.skip ?_ | refine CW.label ?_ | refine CW.exit ?_ | refine CW.condT rfl ?_ | refine CW.condF rfl ?_)
        refine CW.ret ?_
        refine fin_ret2 rfl ?_
        exact ⟨_, [], L, rfl, OwnSl.nil _ _, hR0, hs⟩
      · cases h
    · refine calls (n := 58) Tryd.func16 rfl rfl rfl ?_
      repeat (first | refine CW.seq ?_ | refine CW.block ?_ | refine CW.skip ?_ | refine CW.label ?_ | refine CW.exit ?_ | refine CW.condT rfl ?_ | refine CW.condF rfl ?_)
      refine CW.reg ?_
      refine WL.val rfl (run_assign) ?_
      refine WL.val rfl (run_assign) ?_
      refine WL.nil ?_
      repeat (first | refine CW.seq ?_ | refine CW.block ?_ | refine CW.skip ?_ | refine CW.label ?_ | refine CW.exit ?_ | refine CW.condT rfl ?_ | refine CW.condF rfl ?_)
      refine CW.reg ?_
      refine WL.val rfl (run_move) ?_
      refine WL.val rfl (run_move) ?_
      refine WL.val rfl (run_move) ?_
      refine WL.enter rfl (run_call en36 rfl rfl) (hpk hs.has) ?_
      rintro e w ⟨rfl, hq⟩
      refine ⟨_, rfl, ?_⟩
      replace hs := hs.callE hq
      refine WL.val rfl (run_move) ?_
      refine WL.val rfl (run_extract rfl rfl) ?_
      refine WL.val rfl (run_extract rfl rfl) ?_
      refine WL.val rfl (run_assign) ?_
      refine WL.val rfl (run_assign) ?_
      refine WL.nil ?_
      repeat (first | refine CW.seq ?_ | refine CW.block ?_ | refine CW.skip ?_ | refine CW.label ?_ | refine CW.exit ?_ | refine CW.condT rfl ?_ | refine CW.condF rfl ?_)
      refine CW.reg ?_
      refine WL.val rfl (run_move) ?_
      refine WL.val rfl (run_bT (run_neq rfl rfl) (by exact he)) ?_
      refine WL.val rfl (run_move) ?_
      first | (refine WL.yes rfl rfl rfl ?_; refine WL.val rfl (run_move) ?_) | refine WL.no rfl rfl rfl (.inl rfl) ?_ | refine WL.no rfl rfl rfl (.inr rfl) ?_
      first | (refine WL.yes rfl rfl rfl ?_; refine WL.val rfl (run_eql rfl rfl) ?_) | refine WL.no rfl rfl rfl (.inl rfl) ?_ | refine WL.no rfl rfl rfl (.inr rfl) ?_
      first | refine WL.val rfl (run_pickT rfl) ?_ | refine WL.val rfl (run_pickF rfl) ?_
      refine WL.nil ?_
      repeat (first | refine CW.seq ?_ | refine CW.block ?_ | refine CW.skip ?_ | refine CW.label ?_ | refine CW.exit ?_)
      first | refine CW.condP rfl (fun h => ?_) (fun h => ?_) | refine CW.cond rfl (fun h => ?_) (fun h => ?_)
      · repeat (first | refine CW.seq ?_ | refine CW.block ?_ | refine CW.skip ?_ | refine CW.label ?_ | refine CW.exit ?_ | refine CW.condT rfl ?_ | refine CW.condF rfl ?_)
        refine CW.reg ?_
        refine WL.val rfl (run_move) ?_
        refine WL.val rfl (run_assign) ?_
        refine WL.val rfl (run_assign) ?_
        refine WL.nil ?_
        repeat (first | refine CW.seq ?_ | refine CW.block ?_ | refine CW.skip ?_ | refine CW.label ?_ | refine CW.exit ?_ | refine CW.condT rfl ?_ | refine CW.condF rfl ?_)
        refine CW.ret ?_
        refine fin_ret2 rfl ?_
        exact ⟨_, [], L, rfl, OwnSl.nil _ _, hR0, hs⟩
      · cases h
  · rcases o.his h with ⟨hi, _⟩ | ⟨k, hb, rfl, hk, hi⟩
    · exfalso
      apply hbad
      unfold VS.peek
      rw [hi]
      exact .inl (by simp)
    · have hobt := o.file hk
      obtain ⟨r, hr, hfb⟩ := hobt
      have hobt := o.bnd ok hk hr
      obtain ⟨b1, b2, b3⟩ := hobt
      have hl := o.len_ hr
      have hdat := o.data_ hr
      have hlt := (List.getElem?_eq_some_iff.1 hk).1
      have hpk := fun {w} hw => peek_spec (w0 := w) (h := (k : Int)) o ok hw hn
      have hobt : ∃ kz ez, s.peek (k : Int) n = (kz, ez) := ⟨_, _, rfl⟩
      obtain ⟨kz, ez, hpe⟩ := hobt
      have hread : s.read (k : Int) n = (((r.x).drop hb.pl).take kz.toNat, 0, { s with H := s.H.set k (some (hb.i, hb.pl + kz.toNat, hb.mo)) }) := by
        unfold VS.read
        rw [if_neg hbad, hi, hpe]
        simp only [hdat, Int.toNat_natCast]
      rw [hread]
      have hpv : kz = min n (max 0 ((r.x.length : Int) - hb.pl)) ∧ ¬ n < 0 := by
        have h1 := hpe
        unfold VS.peek at h1
        rw [hi] at h1
        simp only [hl] at h1
        split at h1
        · injection h1 with h1 h2
          exact absurd (by rw [hpe]; exact .inl (by rw [← h2]; simp)) hbad
        · split at h1
          · injection h1 with h1 h2
            exact absurd (by rw [hpe]; exact .inl (by rw [← h2]; simp)) hbad
          · rename_i h3
            injection h1 with h1 h2
            exact ⟨h1.symm, h3⟩
      simp only [hpe] at hbad hpk
      have hez : ez = 0 := Classical.byContradiction fun h => hbad (.inl h)
      have hkz : kz ≠ 0 := fun h => hbad (.inr h)
      subst hez
      have hobt : ∃ j : Nat, kz = j := ⟨kz.toNat, by omega⟩
      obtain ⟨j, rfl⟩ := hobt
      rw [Int.toNat_natCast]
      have hj1 : hb.pl + j ≤ r.x.length := by omega
      have hj0 : 0 < j := by omega
      obtain ⟨bx, ox, cx, hvx⟩ : ∃ b o c, r.v = .slice (some ⟨b, o, none⟩) r.x.length c ∧ r.x.length ≤ c := by
        have hobt := o.fs r (List.mem_of_getElem? hr)
        obtain ⟨_, ⟨_, h0, _⟩ | ⟨b, c, more, h1, _, h2⟩⟩ := hobt
        · omega
        · refine ⟨b, 0, c, h1, ?_⟩
          rw [List.length_append] at h2
          simp only [u8s, List.length_map] at h2
          omega
      obtain ⟨hvx, hcx⟩ := hvx
      obtain ⟨bl, ol, cl, hvl⟩ : ∃ b o c, vh = .slice (some ⟨b, o, none⟩) Hs.length c := by
        have hobt := o.vh.some1 (by omega)
        obtain ⟨b, c, more, h1, _⟩ := hobt
        exact ⟨b, 0, c, h1⟩
      have hcell : ∀ {w : World}, (∀ p ∈ L, w.heap[p.1]? = some p.2) → w.cell? ⟨bl, ol + k * 1, none⟩ = some (.pointer (some ⟨hb.b, 0, none⟩)) := fun hw => by
        have h1 := o.hsl hw
        rw [hvl] at h1
        have hobt := h1.based (by omega)
        obtain ⟨b', o', c', e, hat⟩ := hobt
        cases e
        rw [Nat.mul_one]
        exact hat.cell (by rw [List.getElem?_map, hk]; rfl)
      have hfs := fun {w} hw => (o.at (w := w) hw).cell (j := 2) (v := .slice (some ⟨bl, ol, none⟩) Hs.length cl) (by rw [← hvl]; rfl)
      have hobt : ∃ S, L.map (·.1) = S := ⟨_, rfl⟩
      obtain ⟨S, hS⟩ := hobt
      rw [hS] at hs ⊢
      refine calls (n := 58) Tryd.func16 rfl rfl rfl ?_
      repeat (first | refine CW.seq ?_ | refine CW.block ?_ | refine CW.skip ?_ | refine CW.label ?_ | refine CW.exit ?_ | refine CW.condT rfl ?_ | refine CW.condF rfl ?_)
      refine CW.reg ?_
      refine WL.val rfl (run_assign) ?_
      refine WL.val rfl (run_assign) ?_
      refine WL.nil ?_
      repeat (first | refine CW.seq ?_ | refine CW.block ?_ | refine CW.skip ?_ | refine CW.label ?_ | refine CW.exit ?_ | refine CW.condT rfl ?_ | refine CW.condF rfl ?_)
      refine CW.reg ?_
      refine WL.val rfl (run_move) ?_
      refine WL.val rfl (run_move) ?_
      refine WL.val rfl (run_move) ?_
      refine WL.enter rfl (run_call en36 rfl rfl) (hpk hs.has) ?_
      rintro e w ⟨rfl, hq⟩
      refine ⟨_, rfl, ?_⟩
      replace hs := hs.callE hq
      refine WL.val rfl (run_move) ?_
      refine WL.val rfl (run_extract rfl rfl) ?_
      refine WL.val rfl (run_extract rfl rfl) ?_
      refine WL.val rfl (run_assign) ?_
      refine WL.val rfl (run_assign) ?_
      refine WL.nil ?_
      repeat (first | refine CW.seq ?_ | refine CW.block ?_ | refine CW.skip ?_ | refine CW.label ?_ | refine CW.exit ?_ | refine CW.condT rfl ?_ | refine CW.condF rfl ?_)
      refine CW.reg ?_
      refine WL.val rfl (run_move) ?_
      refine WL.val rfl (run_bF (run_neq rfl rfl) (by exact fun h => h rfl)) ?_
      refine WL.val rfl (run_move) ?_
      first | (refine WL.yes rfl rfl rfl ?_; refine WL.val rfl (run_move) ?_) | refine WL.no rfl rfl rfl (.inl rfl) ?_ | refine WL.no rfl rfl rfl (.inr rfl) ?_
      refine WL.yes rfl rfl rfl ?_
      refine WL.val rfl (run_bF (run_eql rfl rfl) (by omega)) ?_
      first | refine WL.val rfl (run_pickT rfl) ?_ | refine WL.val rfl (run_pickF rfl) ?_
      refine WL.nil ?_
      repeat (first | refine CW.seq ?_ | refine CW.block ?_ | refine CW.skip ?_ | refine CW.label ?_ | refine CW.exit ?_)
      first | refine CW.condP rfl (fun h => ?_) (fun h => ?_) | refine CW.cond rfl (fun h => ?_) (fun h => ?_)
      · cases h
      repeat (first | refine CW.seq ?_ | refine CW.block ?_ | refine CW.skip ?_ | refine CW.label ?_ | refine CW.exit ?_ | refine CW.condT rfl ?_ | refine CW.condF rfl ?_)
      refine CW.reg ?_
      refine WL.val rfl (run_move) ?_
      refine WL.val rfl (run_nilCheck rfl) ?_
      refine WL.val rfl (run_field (o' := 2) Tryd.underlying81 rfl ty79 rfl rfl rfl) ?_
      refine WL.val rfl (run_load1 ty79 rfl ((hfs hs.has))) ?_
      refine WL.val rfl (run_move) ?_
      first | refine WL.val rfl (run_ixSlN Tryd.underlying79 ty91 rfl rfl (by omega)) ?_ | refine WL.val rfl (run_ixSl Tryd.underlying79 ty91 rfl rfl (by omega)) ?_
      refine WL.val rfl (run_load1 ty91 rfl ((hcell hs.has))) ?_
      refine WL.val rfl (run_assign) ?_
      refine WL.nil ?_
      have h5 : Step S (((bf, blk 81 (fsC mf md vh s)) :: (mf, mapS (mapF Fs 0) Fs.length) :: (md, mapS (mapDi Ds 0) Ds.length) :: (Lh ++ (Fs.flatMap FB.own ++ Ds.flatMap DB.own))) ++ Hs.flatMap HB.own) w0 w := by
        have h := hs
        rw [o.L] at h
        simpa only [List.cons_append, List.append_assoc] using h
      clear hs
      have hs := Step.openE hk h5
      replace hs : Step S ((hb.b, blk 93 [.pointer (some ⟨hb.fb, 0, none⟩), .int .i64 (hb.pl : Nat), .int .i64 (hb.mo : Nat)]) :: (((bf, blk 81 (fsC mf md vh s)) :: (mf, mapS (mapF Fs 0) Fs.length) :: (md, mapS (mapDi Ds 0) Ds.length) :: (Lh ++ (Fs.flatMap FB.own ++ Ds.flatMap DB.own))) ++ (Hs.eraseIdx k).flatMap HB.own)) w0 w := hs
      repeat (first | refine CW.seq ?_ | refine CW.block ?_ | refine CW.skip ?_ | refine CW.label ?_ | refine CW.exit ?_ | refine CW.condT rfl ?_ | refine CW.condF rfl ?_)
      refine CW.reg ?_
      refine WL.val rfl (run_move) ?_
      refine WL.val rfl (run_nilCheck rfl) ?_
      refine WL.val rfl (run_field (o' := 1) Tryd.underlying93 rfl ty3 rfl rfl rfl) ?_
      refine WL.val rfl (run_load1 ty3 rfl (hs.c0 (v := .int .i64 (hb.pl : Nat)) rfl)) ?_
      refine WL.val rfl (run_move) ?_
      refine WL.val rfl (run_add (c := ((hb.pl + j : Nat) : Int)) rfl rfl (by omega) (by omega)) ?_
      refine WL.val rfl (run_nilCheck rfl) ?_
      refine WL.val rfl (run_field (o' := 1) Tryd.underlying93 rfl ty3 rfl rfl rfl) ?_
      first | refine WL.store1 ty3 rfl rfl (rfl) hs (by first | (simp; done) | omega | (simp only [List.length_append, List.length_replicate, List.length_cons, List.length_nil, List.length_set]; omega) | (simp [Ent.cells, u8s]; done) | exact Nat.le_of_ble_eq_true rfl) (fun w hs => ?_) | refine WL.store1_1 ty3 rfl rfl (rfl) hs (by first | (simp; done) | omega | (simp only [List.length_append, List.length_replicate, List.length_cons, List.length_nil, List.length_set]; omega) | (simp [Ent.cells, u8s]; done) | exact Nat.le_of_ble_eq_true rfl) (fun w hs => ?_) | refine WL.store1_2 ty3 rfl rfl (rfl) hs (by first | (simp; done) | omega | (simp only [List.length_append, List.length_replicate, List.length_cons, List.length_nil, List.length_set]; omega) | (simp [Ent.cells, u8s]; done) | exact Nat.le_of_ble_eq_true rfl) (fun w hs => ?_) | refine WL.store1_3 ty3 rfl rfl (rfl) hs (by first | (simp; done) | omega | (simp only [List.length_append, List.length_replicate, List.length_cons, List.length_nil, List.length_set]; omega) | (simp [Ent.cells, u8s]; done) | exact Nat.le_of_ble_eq_true rfl) (fun w hs => ?_) | refine WL.store1_4 ty3 rfl rfl (rfl) hs (by first | (simp; done) | omega | (simp only [List.length_append, List.length_replicate, List.length_cons, List.length_nil, List.length_set]; omega) | (simp [Ent.cells, u8s]; done) | exact Nat.le_of_ble_eq_true rfl) (fun w hs => ?_) | refine WL.store1 ty3 rfl rfl (rfl) hs (by first | (simp; done) | omega | (simp only [List.length_append, List.length_replicate, List.length_cons, List.length_nil, List.length_set]; omega) | (simp [Ent.cells, u8s]; done) | exact Nat.le_of_ble_eq_true rfl) (fun w hs => ?_)
      refine WL.nil ?_
      replace hs : Step S ((hb.b, blk 93 [.pointer (some ⟨hb.fb, 0, none⟩), .int .i64 (hb.pl + j : Nat), .int .i64 (hb.mo : Nat)]) :: (((bf, blk 81 (fsC mf md vh s)) :: (mf, mapS (mapF Fs 0) Fs.length) :: (md, mapS (mapDi Ds 0) Ds.length) :: (Lh ++ (Fs.flatMap FB.own ++ Ds.flatMap DB.own))) ++ (Hs.eraseIdx k).flatMap HB.own)) w0 w := hs
      have hfo : ∀ p ∈ r.own, p ∈ Fs.flatMap FB.own := fun p hp => flat_mem hr hp
      have hfat : ∀ {w : World}, Step S ((hb.b, blk 93 [.pointer (some ⟨hb.fb, 0, none⟩), .int .i64 (hb.pl + j : Nat), .int .i64 (hb.mo : Nat)]) :: (((bf, blk 81 (fsC mf md vh s)) :: (mf, mapS (mapF Fs 0) Fs.length) :: (md, mapS (mapDi Ds 0) Ds.length) :: (Lh ++ (Fs.flatMap FB.own ++ Ds.flatMap DB.own))) ++ (Hs.eraseIdx k).flatMap HB.own)) w0 w → At w hb.fb 0 [str r.p, r.v] ∧ At w bx ox (u8s r.x) := fun {w} hs => by
        have hm : ∀ p ∈ r.own, w.heap[p.1]? = some p.2 := fun p hp => hs.has p (by simp [hfo p hp])
        refine ⟨by rw [hfb]; exact At.of_blk (hm (r.b, blk 89 [str r.p, r.v]) (by simp [FB.own])), ?_⟩
        have h1 := (o.fs r (List.mem_of_getElem? hr)).slW (w := w) fun p hp => hm p (by simp [FB.own, hp])
        rw [hvx] at h1
        have hobt := h1.based (by omega)
        obtain ⟨b', o', c', e, hat⟩ := hobt
        cases e
        exact hat
      have hsub : ∀ {w : World}, At w bx ox (u8s r.x) → Sl w 1 (.slice (some ⟨bx, ox + hb.pl * 1, none⟩) (hb.pl + j - hb.pl) (cx - hb.pl)) ((r.x.drop hb.pl).take j).length (u8s ((r.x.drop hb.pl).take j)) := fun h => by
        have e : ((r.x.drop hb.pl).take j).length = hb.pl + j - hb.pl := by simp; omega
        rw [e, Nat.mul_one]
        refine .mk (by simp [u8s]; omega) ?_
        have h2 := (h.drop hb.pl).take j
        simpa [u8s, List.map_drop, List.map_take] using h2
      repeat (first | refine CW.seq ?_ | refine CW.block ?_ | refine CW.skip ?_ | refine CW.label ?_ | refine CW.exit ?_ | refine CW.condT rfl ?_ | refine CW.condF rfl ?_)
      refine CW.quietT (l1 := [_, _, _, _, _, _, _, _, _, _, _, _, _, _, _, _, _, _]) (l2 := [_, _, _]) 18 rfl mixedP rfl (by kernel_rfl) hs ?_
      refine QL.val rfl (fun w hs => run_move) ?_
      refine QL.val rfl (fun w hs => run_nilCheck rfl) ?_
      refine QL.val rfl (fun w hs => run_field (o' := 0) Tryd.underlying93 rfl ty86 rfl rfl rfl) ?_
      refine QL.val rfl (fun w hs => run_load1 ty86 rfl (hs.c0 (v := .pointer (some ⟨hb.fb, 0, none⟩)) rfl)) ?_
      refine QL.val rfl (fun w hs => run_nilCheck rfl) ?_
      refine QL.val rfl (fun w hs => run_field (o' := 1) Tryd.underlying89 rfl ty34 rfl rfl rfl) ?_
      refine QL.val rfl (fun w hs => run_load1 ty34 rfl ((hfat hs).1.cell (j := 1) (v := .slice (some ⟨bx, ox, none⟩) r.x.length cx) (by rw [← hvx]; rfl))) ?_
      refine QL.val rfl (fun w hs => run_move) ?_
      refine QL.val rfl (fun w hs => run_nilCheck rfl) ?_
      refine QL.val rfl (fun w hs => run_field (o' := 1) Tryd.underlying93 rfl ty3 rfl rfl rfl) ?_
      refine QL.val rfl (fun w hs => run_load1 ty3 rfl (hs.c0 (v := .int .i64 (hb.pl + j : Nat)) rfl)) ?_
      refine QL.val rfl (fun w hs => run_move) ?_
      refine QL.val rfl (fun w hs => run_sub (c := ((hb.pl : Nat) : Int)) rfl rfl (by omega) (by omega)) ?_
      refine QL.val rfl (fun w hs => run_move) ?_
      refine QL.val rfl (fun w hs => run_nilCheck rfl) ?_
      refine QL.val rfl (fun w hs => run_field (o' := 1) Tryd.underlying93 rfl ty3 rfl rfl rfl) ?_
      refine QL.val rfl (fun w hs => run_load1 ty3 rfl (hs.c0 (v := .int .i64 (hb.pl + j : Nat)) rfl)) ?_
      refine QL.val rfl (fun w hs => run_sliceSlP  Tryd.underlying34 ty5 rfl rfl rfl rfl (by simp) (by omega) (by omega) (by omega) (by omega)) ?_
      refine QL.nil (fun w hs => ?_)
      refine WL.enter rfl (run_call en37 rfl rfl) (clone_spec _ (hsub (hfat hs).2) (by simp; omega)) ?_
      rintro e w ⟨v', Lv, rfl, hu, hq⟩
      refine ⟨_, rfl, ?_⟩
      replace hs := hs.call0 hq
      refine WL.val rfl (run_assign) ?_
      refine WL.val rfl (run_assign) ?_
      refine WL.nil ?_
      repeat (first | refine CW.seq ?_ | refine CW.block ?_ | refine CW.skip ?_ | refine CW.label ?_ | refine CW.exit ?_ | refine CW.condT rfl ?_ | refine CW.condF rfl ?_)
      refine CW.ret ?_
      refine fin_ret2 rfl ?_
      have hobt := o.setH hk (hb.pl + j)
      obtain ⟨L', hL', hp⟩ := hobt
      exact ⟨v', Lv, L', rfl, hu, hL', hs.perm (hp.append_left Lv)⟩
end
end Go.Gx
