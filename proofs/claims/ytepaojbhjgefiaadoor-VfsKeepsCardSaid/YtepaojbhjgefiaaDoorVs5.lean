/- Files in memory: Close. -/
import Derived.Test.YtepaojbhjgefiaaDoorVs4
namespace Go.Gx
open Go.Proofs
set_option linter.unusedVariables false
set_option linter.unusedSimpArgs false
set_option maxRecDepth 100000
def VS.close (s : VS) (h : Int) : Int × VS := match s.is h with
  | none => (95, s)
  | some _ => (0, { s with H := s.H.set h.toNat none, op := s.op - 1 })
section
variable {α : Type} {f : α → List (Nat × Obj)} {l : List α} {i : Nat} {a a' : α} {A : List (Nat × Obj)} {S : List Nat} {w0 w : World}
theorem Step.openE (h : l[i]? = some a) (hs : Step S (A ++ l.flatMap f) w0 w) : Step S (f a ++ (A ++ (l.eraseIdx i).flatMap f)) w0 w := hs.perm (((flat_open h).append_left A).trans (List.perm_append_comm_assoc _ _ _))
theorem Step.shutE (h : i < l.length) (hs : Step S (f a' ++ (A ++ (l.eraseIdx i).flatMap f)) w0 w) : Step S (A ++ (l.set i a').flatMap f) w0 w := hs.perm ((List.perm_append_comm_assoc _ _ _).trans ((flat_shut h).append_left A))
end
section
variable {bf : Nat} {s : VS} {L : List (Nat × Obj)} {w0 : World}
theorem close_spec (hR : VRep bf s L) (ok : s.Ok) (hop : 1 ≤ s.op) (hw : Step (L.map (·.1)) L w0 w0) {h : Int} : Calls Tryd.prog 10 #[.pointer (some ⟨bf, 0, none⟩), .int .i64 h] w0 fun e w' => ∃ L', e = .returned (.int .i64 (s.close h).1) ∧ VRep bf (s.close h).2 L' ∧ Step (L.map (·.1)) L' w0 w' := by
  obtain ⟨mf, md, vh, Lh, Fs, Ds, Hs, o⟩ := hR
  have hlw : ∀ {w : World}, Step [] [] w0 w → ∀ p ∈ L, w.heap[p.1]? = some p.2 := fun hs p hp => hs.old (hw.has p hp) (by simp)
  have hsop := ok.op
  rcases o.his h with ⟨hi, _⟩ | ⟨k, hb, rfl, hk, hi⟩
  · have hs : Step (L.map (·.1)) L w0 w0 := hw
    rw [show s.close h = (95, s) by unfold VS.close; rw [hi]]
    refine calls (n := 29) Tryd.func10 rfl rfl rfl ?_
    repeat (first | refine CW.seq ?_ | refine CW.block ?_ | refine CW.skip ?_ | refine CW.label ?_ | refine CW.exit ?_ | refine CW.condT rfl ?_ | refine CW.condF rfl ?_)
    refine CW.reg ?_
    refine WL.val rfl (run_assign) ?_
    refine WL.nil ?_
    repeat (first | refine CW.seq ?_ | refine CW.block ?_ | refine CW.skip ?_ | refine CW.label ?_ | refine CW.exit ?_ | refine CW.condT rfl ?_ | refine CW.condF rfl ?_)
    refine CW.reg ?_
    refine WL.val rfl (run_move) ?_
    refine WL.val rfl (run_move) ?_
    refine WL.enter rfl (run_call en33 rfl rfl) (is_none o ok hs.has hi) ?_
    rintro e w ⟨rfl, hq⟩
    refine ⟨_, rfl, ?_⟩
    replace hs := hs.callE hq
    refine WL.val rfl (run_move) ?_
    refine WL.val rfl (run_extract rfl rfl) ?_
    refine WL.val rfl (run_extract rfl rfl) ?_
    refine WL.val rfl (run_assign) ?_
    refine WL.val rfl (run_assign) ?_
    refine WL.nil ?_
    repeat (first | refine CW.seq ?_ | refine CW.block ?_ | refine CW.skip ?_ | refine CW.label ?_ | refine CW.exit ?_ | refine CW.condT rfl ?_ | refine CW.condF rfl ?_)
    refine CW.reg ?_
    refine WL.val rfl (run_move) ?_
    refine WL.val rfl (run_bT (run_neq rfl rfl) (by decide)) ?_
    refine WL.nil ?_
    repeat (first | refine CW.seq ?_ | refine CW.block ?_ | refine CW.skip ?_ | refine CW.label ?_ | refine CW.exit ?_)
    first | refine CW.condP rfl (fun h => ?_) (fun h => ?_) | refine CW.cond rfl (fun h => ?_) (fun h => ?_)
    · repeat (first | refine CW.seq ?_ | refine CW.block ?_ | refine CW.skip ?_ | refine CW.label ?_ | refine CW.exit ?_ | refine CW.condT rfl ?_ | refine CW.condF rfl ?_)
      refine CW.reg ?_
      refine WL.val rfl (run_move) ?_
      refine WL.val rfl (run_assign) ?_
      refine WL.nil ?_
      repeat (first | refine CW.seq ?_ | refine CW.block ?_ | refine CW.skip ?_ | refine CW.label ?_ | refine CW.exit ?_ | refine CW.condT rfl ?_ | refine CW.condF rfl ?_)
      refine CW.ret ?_
      refine fin_ret1 rfl ?_
      exact ⟨L, rfl, ⟨mf, md, vh, Lh, Fs, Ds, Hs, o⟩, hs⟩
    · cases h
  · have hlt := (List.getElem?_eq_some_iff.1 hk).1
    have hobt := o.vh.some1 (by omega)
    obtain ⟨bl, cap, more, hv, hL, hc⟩ := hobt
    have hml : (Hs.map HB.val ++ more).length = Hs.length + more.length := by simp
    have hOL := o.L
    rw [hL, List.singleton_append] at hOL
    have hs : Step (L.map (·.1)) ((bf, blk 81 (fsC mf md vh s)) :: (mf, mapS (mapF Fs 0) Fs.length) :: (md, mapS (mapDi Ds 0) Ds.length) :: (bl, blk 91 (Hs.map HB.val ++ more)) :: (Fs.flatMap FB.own ++ (Ds.flatMap DB.own ++ Hs.flatMap HB.own))) w0 w0 := by rw [← hOL]; exact hw
    rw [show s.close (k : Int) = (0, { s with H := s.H.set k none, op := s.op - 1 }) by unfold VS.close; rw [hi, Int.toNat_natCast]]
    have hobt : ∃ S, L.map (·.1) = S := ⟨_, rfl⟩
    obtain ⟨S, hS⟩ := hobt
    rw [hS] at hs ⊢
    have hsub : ((s.op : Nat) : Int) - 1 = ((s.op - 1 : Nat) : Int) := by omega
    have hof : ∀ {w : World}, Step S ((bf, blk 81 (fsC mf md vh s)) :: (mf, mapS (mapF Fs 0) Fs.length) :: (md, mapS (mapDi Ds 0) Ds.length) :: (bl, blk 91 (Hs.map HB.val ++ more)) :: (Fs.flatMap FB.own ++ (Ds.flatMap DB.own ++ Hs.flatMap HB.own))) w0 w → ∀ p ∈ L, w.heap[p.1]? = some p.2 := fun hs p hp => hs.has p (by rw [hOL] at hp; exact hp)
    rw [hv] at hs hof
    have o2 := o
    rw [hv] at o2
    refine calls (n := 29) Tryd.func10 rfl rfl rfl ?_
    repeat (first | refine CW.seq ?_ | refine CW.block ?_ | refine CW.skip ?_ | refine CW.label ?_ | refine CW.exit ?_ | refine CW.condT rfl ?_ | refine CW.condF rfl ?_)
    refine CW.reg ?_
    refine WL.val rfl (run_assign) ?_
    refine WL.nil ?_
    repeat (first | refine CW.seq ?_ | refine CW.block ?_ | refine CW.skip ?_ | refine CW.label ?_ | refine CW.exit ?_ | refine CW.condT rfl ?_ | refine CW.condF rfl ?_)
    refine CW.reg ?_
    refine WL.val rfl (run_move) ?_
    refine WL.val rfl (run_move) ?_
    refine WL.enter rfl (run_call en33 rfl rfl) (is_some o ok (hof hs) hk) ?_
    rintro e w ⟨rfl, hq⟩
    refine ⟨_, rfl, ?_⟩
    replace hs := hs.callE hq
    refine WL.val rfl (run_move) ?_
    refine WL.val rfl (run_extract rfl rfl) ?_
    refine WL.val rfl (run_extract rfl rfl) ?_
    refine WL.val rfl (run_assign) ?_
    refine WL.val rfl (run_assign) ?_
    refine WL.nil ?_
    repeat (first | refine CW.seq ?_ | refine CW.block ?_ | refine CW.skip ?_ | refine CW.label ?_ | refine CW.exit ?_ | refine CW.condT rfl ?_ | refine CW.condF rfl ?_)
    refine CW.reg ?_
    refine WL.val rfl (run_move) ?_
    refine WL.val rfl (run_bF (run_neq rfl rfl) (by decide)) ?_
    refine WL.nil ?_
    repeat (first | refine CW.seq ?_ | refine CW.block ?_ | refine CW.skip ?_ | refine CW.label ?_ | refine CW.exit ?_)
    first | refine CW.condP rfl (fun h => ?_) (fun h => ?_) | refine CW.cond rfl (fun h => ?_) (fun h => ?_)
    · cases h
    repeat (first | refine CW.seq ?_ | refine CW.block ?_ | refine CW.skip ?_ | refine CW.label ?_ | refine CW.exit ?_ | refine CW.condT rfl ?_ | refine CW.condF rfl ?_)
    refine CW.reg ?_
    refine WL.val rfl (run_move) ?_
    refine WL.val rfl (run_nilCheck rfl) ?_
    refine WL.val rfl (run_field (o' := 2) Tryd.underlying81 rfl ty79 rfl rfl rfl) ?_
    refine WL.val rfl (run_load1 ty79 rfl (hs.c0 (v := .slice (some ⟨bl, 0, none⟩) Hs.length cap) rfl)) ?_
    refine WL.val rfl (run_move) ?_
    first | refine WL.val rfl (run_ixSlN Tryd.underlying79 ty91 rfl rfl (by omega)) ?_ | refine WL.val rfl (run_ixSl Tryd.underlying79 ty91 rfl rfl (by omega)) ?_
    first | refine WL.store1 ty91 rfl rfl (rfl) hs (by first | (simp; done) | omega | (simp only [List.length_append, List.length_replicate, List.length_cons, List.length_nil, List.length_set]; omega) | (simp [Ent.cells, u8s]; done) | exact Nat.le_of_ble_eq_true rfl) (fun w hs => ?_) | refine WL.store1_1 ty91 rfl rfl (rfl) hs (by first | (simp; done) | omega | (simp only [List.length_append, List.length_replicate, List.length_cons, List.length_nil, List.length_set]; omega) | (simp [Ent.cells, u8s]; done) | exact Nat.le_of_ble_eq_true rfl) (fun w hs => ?_) | refine WL.store1_2 ty91 rfl rfl (rfl) hs (by first | (simp; done) | omega | (simp only [List.length_append, List.length_replicate, List.length_cons, List.length_nil, List.length_set]; omega) | (simp [Ent.cells, u8s]; done) | exact Nat.le_of_ble_eq_true rfl) (fun w hs => ?_) | refine WL.store1_3 ty91 rfl rfl (rfl) hs (by first | (simp; done) | omega | (simp only [List.length_append, List.length_replicate, List.length_cons, List.length_nil, List.length_set]; omega) | (simp [Ent.cells, u8s]; done) | exact Nat.le_of_ble_eq_true rfl) (fun w hs => ?_) | refine WL.store1_4 ty91 rfl rfl (rfl) hs (by first | (simp; done) | omega | (simp only [List.length_append, List.length_replicate, List.length_cons, List.length_nil, List.length_set]; omega) | (simp [Ent.cells, u8s]; done) | exact Nat.le_of_ble_eq_true rfl) (fun w hs => ?_) | refine WL.store1 ty91 rfl rfl (rfl) hs (by first | (simp; done) | omega | (simp only [List.length_append, List.length_replicate, List.length_cons, List.length_nil, List.length_set]; omega) | (simp [Ent.cells, u8s]; done) | exact Nat.le_of_ble_eq_true rfl) (fun w hs => ?_)
    refine WL.nil ?_
    repeat (first | refine CW.seq ?_ | refine CW.block ?_ | refine CW.skip ?_ | refine CW.label ?_ | refine CW.exit ?_ | refine CW.condT rfl ?_ | refine CW.condF rfl ?_)
    refine CW.reg ?_
    refine WL.val rfl (run_move) ?_
    refine WL.val rfl (run_nilCheck rfl) ?_
    refine WL.val rfl (run_field (o' := 7) Tryd.underlying81 rfl ty3 rfl rfl rfl) ?_
    refine WL.val rfl (run_load1 ty3 rfl (hs.c0 (v := .int .i64 (s.op : Nat)) rfl)) ?_
    refine WL.val rfl (run_sub (c := ((s.op - 1 : Nat) : Int)) rfl rfl (by omega) (by omega)) ?_
    refine WL.val rfl (run_nilCheck rfl) ?_
    refine WL.val rfl (run_field (o' := 7) Tryd.underlying81 rfl ty3 rfl rfl rfl) ?_
    first | refine WL.store1 ty3 rfl rfl (rfl) hs (by first | (simp; done) | omega | (simp only [List.length_append, List.length_replicate, List.length_cons, List.length_nil, List.length_set]; omega) | (simp [Ent.cells, u8s]; done) | exact Nat.le_of_ble_eq_true rfl) (fun w hs => ?_) | refine WL.store1_1 ty3 rfl rfl (rfl) hs (by first | (simp; done) | omega | (simp only [List.length_append, List.length_replicate, List.length_cons, List.length_nil, List.length_set]; omega) | (simp [Ent.cells, u8s]; done) | exact Nat.le_of_ble_eq_true rfl) (fun w hs => ?_) | refine WL.store1_2 ty3 rfl rfl (rfl) hs (by first | (simp; done) | omega | (simp only [List.length_append, List.length_replicate, List.length_cons, List.length_nil, List.length_set]; omega) | (simp [Ent.cells, u8s]; done) | exact Nat.le_of_ble_eq_true rfl) (fun w hs => ?_) | refine WL.store1_3 ty3 rfl rfl (rfl) hs (by first | (simp; done) | omega | (simp only [List.length_append, List.length_replicate, List.length_cons, List.length_nil, List.length_set]; omega) | (simp [Ent.cells, u8s]; done) | exact Nat.le_of_ble_eq_true rfl) (fun w hs => ?_) | refine WL.store1_4 ty3 rfl rfl (rfl) hs (by first | (simp; done) | omega | (simp only [List.length_append, List.length_replicate, List.length_cons, List.length_nil, List.length_set]; omega) | (simp [Ent.cells, u8s]; done) | exact Nat.le_of_ble_eq_true rfl) (fun w hs => ?_) | refine WL.store1 ty3 rfl rfl (rfl) hs (by first | (simp; done) | omega | (simp only [List.length_append, List.length_replicate, List.length_cons, List.length_nil, List.length_set]; omega) | (simp [Ent.cells, u8s]; done) | exact Nat.le_of_ble_eq_true rfl) (fun w hs => ?_)
    refine WL.nil ?_
    repeat (first | refine CW.seq ?_ | refine CW.block ?_ | refine CW.skip ?_ | refine CW.label ?_ | refine CW.exit ?_ | refine CW.condT rfl ?_ | refine CW.condF rfl ?_)
    refine CW.reg ?_
    refine WL.val rfl (run_assign) ?_
    refine WL.nil ?_
    repeat (first | refine CW.seq ?_ | refine CW.block ?_ | refine CW.skip ?_ | refine CW.label ?_ | refine CW.exit ?_ | refine CW.condT rfl ?_ | refine CW.condF rfl ?_)
    refine CW.ret ?_
    refine fin_ret1 rfl ?_
    have hset : (Hs.map HB.val ++ more).set (0 + k * 1) (Value.pointer none) = (Hs.set k none).map HB.val ++ more := by
      rw [Nat.zero_add, Nat.mul_one, List.set_append_left _ _ (by simpa using hlt), List.map_set]
      rfl
    let s2 : VS := { s with H := s.H.set k none, op := s.op - 1 }
    replace hs : Step S ((bf, blk 81 (fsC mf md (.slice (some ⟨bl, 0, none⟩) Hs.length cap) s2)) :: (mf, mapS (mapF Fs 0) Fs.length) :: (md, mapS (mapDi Ds 0) Ds.length) :: (bl, blk 91 ((Hs.set k none).map HB.val ++ more)) :: (Fs.flatMap FB.own ++ (Ds.flatMap DB.own ++ Hs.flatMap HB.own))) w0 w := by
      rw [← hset]
      exact hs
    have h5 : Step S (((bf, blk 81 (fsC mf md (.slice (some ⟨bl, 0, none⟩) Hs.length cap) s2)) :: (mf, mapS (mapF Fs 0) Fs.length) :: (md, mapS (mapDi Ds 0) Ds.length) :: (bl, blk 91 ((Hs.set k none).map HB.val ++ more)) :: (Fs.flatMap FB.own ++ Ds.flatMap DB.own)) ++ Hs.flatMap HB.own) w0 w := by simpa only [List.cons_append, List.append_assoc] using hs
    have h6 := Step.shutE (a' := none) hlt (Step.dropL (Step.openE hk h5) : Step S (HB.own none ++ (_ ++ (Hs.eraseIdx k).flatMap HB.own)) w0 w)
    refine ⟨_, rfl, ⟨mf, md, .slice (some ⟨bl, 0, none⟩) Hs.length cap, [(bl, blk 91 ((Hs.set k none).map HB.val ++ more))], Fs, Ds, Hs.set k none, ?_⟩, h6⟩
    refine ⟨?_, ?_, o.fs, ?_, o.F, o.D, ?_⟩
    · simp [List.append_assoc, s2]
    · rw [List.length_set]
      refine ⟨by simp, .inr ⟨bl, cap, more, rfl, rfl, ?_⟩⟩
      rw [List.length_append, List.length_map, List.length_set, ← hc, List.length_append, List.length_map]
    · intro h hm
      rcases List.mem_or_eq_of_mem_set hm with h1 | h1
      · exact o.hs h h1
      · cases h1
    · show (Hs.set k none).map _ = s.H.set k none
      rw [List.map_set, o.H]
      rfl
end
end Go.Gx
