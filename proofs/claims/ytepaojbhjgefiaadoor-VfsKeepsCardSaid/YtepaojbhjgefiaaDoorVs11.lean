/- Files in memory: add, the walk. -/
import Derived.Test.YtepaojbhjgefiaaDoorVs10
namespace Go.Gx
open Go.Proofs
set_option linter.unusedVariables false
set_option linter.unusedSimpArgs false
set_option maxRecDepth 100000
theorem bld_com (d : List UInt8) (w : World) : (Instr.build 75 #[(0, str d)]).run Tryd.prog w = .ok (.agg #[str d]) w := by kernel_rfl
theorem bld_dir (d : List UInt8) (w : World) : (Instr.build 77 #[(0, .agg #[str d])]).run Tryd.prog w = .ok (.agg #[str d, .int .i64 ((0 : Nat) : Int)]) w := by kernel_rfl
theorem bld_file (d : List UInt8) (a : Option Addr) (n c : Nat) (w : World) : (Instr.build 89 #[(0, .agg #[str d]), (1, .slice a n c)]).run Tryd.prog w = .ok (.agg #[str d, .slice a n c]) w := by kernel_rfl
section
variable {α : Type}
theorem perm_add1 {x a b c : α} {R : List α} : (x :: a :: b :: c :: R).Perm (a :: b :: c :: x :: R) := by
  classical
  exact List.perm_iff_count.2 fun y => by
    simp only [List.count_append, List.count_cons, List.count_nil]
    omega
theorem perm_add2 {x a b c e : α} {R : List α} : (a :: x :: e :: b :: c :: R).Perm (e :: (x :: b :: c :: a :: R)) := by
  classical
  exact List.perm_iff_count.2 fun y => by
    simp only [List.count_append, List.count_cons, List.count_nil]
    omega
theorem perm_add3 {a b c : α} {l R : List α} : (l ++ (a :: b :: c :: R)).Perm (a :: b :: c :: (l ++ R)) := by
  classical
  exact List.perm_iff_count.2 fun y => by
    simp only [List.count_append, List.count_cons, List.count_nil]
    omega
theorem perm_add4 {m x e b d : α} {l R : List α} : (m :: x :: e :: b :: (l ++ (d :: R))).Perm (e :: (x :: b :: m :: d :: (l ++ R))) := by
  classical
  exact List.perm_iff_count.2 fun y => by
    simp only [List.count_append, List.count_cons, List.count_nil]
    omega
end
/-- 'VRep', with the files' blocks. -/
def VRepF (bf : Nat) (s : VS) (L : List (Nat × Obj)) (bs : List Nat) : Prop := ∃ mf md vh Lh Fs Ds Hs, VOpen bf s L mf md vh Lh Fs Ds Hs ∧ Fs.map (·.b) = bs
theorem VRepF.rep {bf : Nat} {s : VS} {L : List (Nat × Obj)} {bs : List Nat} (h : VRepF bf s L bs) : VRep bf s L := by
  obtain ⟨mf, md, vh, Lh, Fs, Ds, Hs, o, _⟩ := h
  exact ⟨mf, md, vh, Lh, Fs, Ds, Hs, o⟩
section
variable {bf : Nat} {s : VS} {L : List (Nat × Obj)} {bs : List Nat} {w0 : World}
set_option maxHeartbeats 2000000 in
theorem addDir_spec (hR : VRepF bf s L bs) (hn : ∀ e ∈ s.D, e.2 ≤ 1000000) (hg : Gl w0) (h0 : 0 ∉ L.map (·.1)) (hw : Step (L.map (·.1)) L w0 w0) {d : List UInt8} (hdl : d.length ≤ 9223372036854775807) {j : Nat} (hj : s.dir (splitR d).1 = some j) (hnew : (s.bump j).dir d = none) : Calls Tryd.prog 28 #[.pointer (some ⟨bf, 0, none⟩), .agg (itC d true (.slice none 0 0)).toArray] w0 fun e w' => ∃ L', e = .returned (.tuple #[]) ∧ VRepF bf (s.addDir d) L' bs ∧ Step (L.map (·.1)) L' w0 w' := by
  obtain ⟨mf, md, vh, Lh, Fs, Ds, Hs, o, rfl⟩ := hR
  have hs : Step (L.map (·.1)) L w0 w0 := hw
  have hobt := o.dir_at hj
  obtain ⟨r, hr, hrp, hv⟩ := hobt
  have hrn : r.n ≤ 1000000 := hn (r.p, r.n) (by rw [← o.D]; exact List.mem_map.2 ⟨r, List.mem_of_getElem? hr, rfl⟩)
  have hvD := o.lookD (splitR d).1
  rw [hv] at hvD
  have hop := o.openD hr
  have hobt := o.setD hr
  obtain ⟨L1, o1, hset⟩ := hobt
  rw [show s.addDir d = { s.bump j with D := (s.bump j).D ++ [(d, 0)] } by unfold VS.addDir; rw [hj]]
  have hmd : w0.heap[md]? = some (mapS (mapDi Ds 0) Ds.length) := o.md_ hs.has
  have hobt : ∃ S, L.map (·.1) = S := ⟨_, rfl⟩
  obtain ⟨S, hS⟩ := hobt
  rw [hS] at hs h0 ⊢
  refine calls (n := 63) Tryd.func28 rfl rfl rfl ?_
  repeat (first | refine CW.seq ?_ | refine CW.block ?_ | refine CW.skip ?_ | refine CW.label ?_ | refine CW.exit ?_ | refine CW.condT rfl ?_ | refine CW.condF rfl ?_)
  refine CW.reg ?_
  refine WL.box (cs := itC d true (.slice none 0 0)) rfl rfl rfl hs (fun b3 w hs => ?_)
  refine WL.nil ?_
  repeat (first | refine CW.seq ?_ | refine CW.block ?_ | refine CW.skip ?_ | refine CW.label ?_ | refine CW.exit ?_ | refine CW.condT rfl ?_ | refine CW.condF rfl ?_)
  refine CW.reg ?_
  refine WL.val rfl (run_field (o' := 0) Tryd.underlying50 rfl ty9 rfl rfl rfl) ?_
  refine WL.val rfl (run_load1 ty9 rfl (hs.c0 (v := str d) rfl)) ?_
  refine WL.enter rfl (run_call en49 rfl rfl) (splitP_spec _ (hg.stepS hs h0) hdl) ?_
  rintro e w ⟨rfl, hq⟩
  refine ⟨_, rfl, ?_⟩
  replace hs := hs.callE hq
  refine WL.val rfl (run_move) ?_
  refine WL.val rfl (run_extract rfl rfl) ?_
  refine WL.val rfl (run_extract rfl rfl) ?_
  refine WL.val rfl (run_extract rfl rfl) ?_
  refine WL.val rfl (run_assign) ?_
  refine WL.val rfl (run_assign) ?_
  refine WL.val rfl (run_assign) ?_
  refine WL.nil ?_
  have hs2 := hs.perm ((hop.cons _).trans perm_add1)
  clear hs
  have hs := hs2
  repeat (first | refine CW.seq ?_ | refine CW.block ?_ | refine CW.skip ?_ | refine CW.label ?_ | refine CW.exit ?_ | refine CW.condT rfl ?_ | refine CW.condF rfl ?_)
  refine CW.reg ?_
  refine WL.val rfl (run_move) ?_
  refine WL.val rfl (run_nilCheck rfl) ?_
  refine WL.val rfl (run_field (o' := 1) Tryd.underlying81 rfl ty78 rfl rfl rfl) ?_
  refine WL.val rfl (run_load1 ty78 rfl (hs.c1 (v := .map (some md)) rfl)) ?_
  refine WL.val rfl (run_move) ?_
  refine WL.val rfl (run_lookupSE Tryd.underlying78 Tryd.underlying9 (zDir _) (hvD) rfl rfl (hs.at [_, _])) ?_
  refine WL.val rfl (run_nilCheck rfl) ?_
  refine WL.val rfl (run_field (o' := 1) Tryd.underlying77 rfl ty3 rfl rfl rfl) ?_
  refine WL.val rfl (run_load1 ty3 rfl (hs.c0 (v := .int .i64 (r.n : Nat)) rfl)) ?_
  refine WL.val rfl (run_add (c := ((r.n + 1 : Nat) : Int)) rfl rfl (by omega) (by omega)) ?_
  refine WL.val rfl (run_nilCheck rfl) ?_
  refine WL.val rfl (run_field (o' := 1) Tryd.underlying77 rfl ty3 rfl rfl rfl) ?_
  first | refine WL.store1 ty3 rfl rfl (rfl) hs (by first | (simp; done) | omega | (simp only [List.length_append, List.length_replicate, List.length_cons, List.length_nil, List.length_set]; omega) | (simp [Ent.cells, u8s]; done) | exact Nat.le_of_ble_eq_true rfl) (fun w hs => ?_) | refine WL.store1_1 ty3 rfl rfl (rfl) hs (by first | (simp; done) | omega | (simp only [List.length_append, List.length_replicate, List.length_cons, List.length_nil, List.length_set]; omega) | (simp [Ent.cells, u8s]; done) | exact Nat.le_of_ble_eq_true rfl) (fun w hs => ?_) | refine WL.store1_2 ty3 rfl rfl (rfl) hs (by first | (simp; done) | omega | (simp only [List.length_append, List.length_replicate, List.length_cons, List.length_nil, List.length_set]; omega) | (simp [Ent.cells, u8s]; done) | exact Nat.le_of_ble_eq_true rfl) (fun w hs => ?_) | refine WL.store1_3 ty3 rfl rfl (rfl) hs (by first | (simp; done) | omega | (simp only [List.length_append, List.length_replicate, List.length_cons, List.length_nil, List.length_set]; omega) | (simp [Ent.cells, u8s]; done) | exact Nat.le_of_ble_eq_true rfl) (fun w hs => ?_) | refine WL.store1_4 ty3 rfl rfl (rfl) hs (by first | (simp; done) | omega | (simp only [List.length_append, List.length_replicate, List.length_cons, List.length_nil, List.length_set]; omega) | (simp [Ent.cells, u8s]; done) | exact Nat.le_of_ble_eq_true rfl) (fun w hs => ?_) | refine WL.store1 ty3 rfl rfl (rfl) hs (by first | (simp; done) | omega | (simp only [List.length_append, List.length_replicate, List.length_cons, List.length_nil, List.length_set]; omega) | (simp [Ent.cells, u8s]; done) | exact Nat.le_of_ble_eq_true rfl) (fun w hs => ?_)
  refine WL.nil ?_
  have hs3 := hs.perm (perm_add1.symm.trans (hset.cons _))
  rw [o1.L] at hs3
  clear hs hs2
  have hs := hs3
  repeat (first | refine CW.seq ?_ | refine CW.block ?_ | refine CW.skip ?_ | refine CW.label ?_ | refine CW.exit ?_ | refine CW.condT rfl ?_ | refine CW.condF rfl ?_)
  refine CW.reg ?_
  refine WL.val rfl (run_field (o' := 1) Tryd.underlying50 rfl ty4 rfl rfl rfl) ?_
  refine WL.val rfl (run_load1 ty4 rfl (hs.c0 (v := .bool true) rfl)) ?_
  refine WL.nil ?_
  repeat (first | refine CW.seq ?_ | refine CW.block ?_ | refine CW.skip ?_ | refine CW.label ?_ | refine CW.exit ?_)
  first | refine CW.condP rfl (fun h => ?_) (fun h => ?_) | refine CW.cond rfl (fun h => ?_) (fun h => ?_)
  · repeat (first | refine CW.seq ?_ | refine CW.block ?_ | refine CW.skip ?_ | refine CW.label ?_ | refine CW.exit ?_ | refine CW.condT rfl ?_ | refine CW.condF rfl ?_)
    refine CW.any (A := fun w => w.heap[b3]? = some (blk 50 (itC d true (.slice none 0 0))) ∧ w.heap[bf]? = some (blk 81 (fsC mf md vh (s.bump j)))) (C := fun w => w.heap[b3]? = some (blk 50 (itC d true (.slice none 0 0))) ∧ w.heap[bf]? = some (blk 81 (fsC mf md vh (s.bump j)))) 1000000 12 mixedP rfl ?_
    replace hs := hs.drew
    refine AL.val 0 rfl (by kernel_rfl) rfl (fun w hs => run_move) ?_
    refine AL.val 1 rfl (by kernel_rfl) rfl (fun w hs => run_nilCheck rfl) ?_
    refine AL.val 2 rfl (by kernel_rfl) rfl (fun w hs => run_field (o' := 1) Tryd.underlying81 rfl ty78 rfl rfl rfl) ?_
    refine AL.val 3 rfl (by kernel_rfl) rfl (fun w hs => run_load1 ty78 rfl ((by rw [cell_blk hs.2]; rfl))) ?_
    refine AL.val 4 rfl (by kernel_rfl) rfl (fun w hs => run_field (o' := 0) Tryd.underlying50 rfl ty9 rfl rfl rfl) ?_
    refine AL.val 5 rfl (by kernel_rfl) rfl (fun w hs => run_load1 ty9 rfl ((by rw [cell_blk hs.1]; rfl))) ?_
    refine AL.val 6 rfl (by kernel_rfl) rfl (fun w hs => run_field (o' := 0) Tryd.underlying50 rfl ty9 rfl rfl rfl) ?_
    refine AL.val 7 rfl (by kernel_rfl) rfl (fun w hs => run_load1 ty9 rfl ((by rw [cell_blk hs.1]; rfl))) ?_
    refine AL.val 8 rfl (by kernel_rfl) rfl (fun w hs => run_build rfl (bld_com d _)) ?_
    refine AL.val 9 rfl (by kernel_rfl) rfl (fun w hs => run_build rfl (bld_dir d _)) ?_
    refine AL.one 10 (by kernel_rfl) rfl (by first | exact ⟨hs.hd, hs.tail.hd⟩ | exact ⟨hs.tail.hd, hs.tail.tail.hd⟩ | exact ⟨hs.tail.tail.hd, hs.tail.tail.tail.hd⟩) (by first | exact ⟨hs.hd, hs.tail.hd⟩ | exact ⟨hs.tail.hd, hs.tail.tail.hd⟩ | exact ⟨hs.tail.tail.hd, hs.tail.tail.tail.hd⟩) ?_
    refine WL.box (cs := [str d, .int .i64 ((0 : Nat) : Int)]) rfl rfl rfl hs (fun b38 w hs => ?_)
    refine WL.nil ?_
    refine ⟨rfl, ?_⟩
    refine AL.one 11 (by kernel_rfl) rfl (by first | exact ⟨hs.hd, hs.tail.hd⟩ | exact ⟨hs.tail.hd, hs.tail.tail.hd⟩ | exact ⟨hs.tail.tail.hd, hs.tail.tail.tail.hd⟩) (by first | exact ⟨hs.hd, hs.tail.hd⟩ | exact ⟨hs.tail.hd, hs.tail.tail.hd⟩ | exact ⟨hs.tail.tail.hd, hs.tail.tail.tail.hd⟩) ?_
    refine WL.mapPutS Tryd.underlying78 Tryd.underlying9 rfl rfl rfl (hs.front [_, _, _, _]) (fun w hs => ?_)
    refine WL.nil ?_
    refine ⟨rfl, ?_⟩
    refine AL.end (by kernel_rfl) (by first | exact ⟨hs.hd, hs.tail.hd⟩ | exact ⟨hs.tail.hd, hs.tail.tail.hd⟩ | exact ⟨hs.tail.tail.hd, hs.tail.tail.tail.hd⟩) (by first | exact ⟨hs.hd, hs.tail.hd⟩ | exact ⟨hs.tail.hd, hs.tail.tail.hd⟩ | exact ⟨hs.tail.tail.hd, hs.tail.tail.tail.hd⟩) ?_
    have hs4 := (hs.perm perm_add2).tail
    have hobt := o1.newD hnew b38 (List.Perm.refl _)
    obtain ⟨L', hL', hp⟩ := hobt
    repeat (first | refine CW.seq ?_ | refine CW.block ?_ | refine CW.skip ?_ | refine CW.label ?_ | refine CW.exit ?_ | refine CW.condT rfl ?_ | refine CW.condF rfl ?_)
    refine CW.ret ?_
    refine fin_ret0 rfl ?_
    exact ⟨L', rfl, ⟨_, _, _, _, _, _, _, hL', rfl⟩, hs4.perm hp⟩
  · cases h
set_option maxHeartbeats 2000000 in
theorem addFile_spec (hR : VRepF bf s L bs) (hn : ∀ e ∈ s.D, e.2 ≤ 1000000) (hby : s.by_ ≤ 1000000000000) (hg : Gl w0) (h0 : 0 ∉ L.map (·.1)) (hw : Step (L.map (·.1)) L w0 w0) {d x : List UInt8} (hdl : d.length ≤ 9223372036854775807) (hxl : x.length ≤ 1000000000000) {v : Value} (hv0 : ∀ {L' w}, Step (L.map (·.1)) L' w0 w → Sl w 1 v x.length (u8s x)) {j : Nat} (hj : s.dir (splitR d).1 = some j) (hnew : (s.bump j).file d = none) : Calls Tryd.prog 28 #[.pointer (some ⟨bf, 0, none⟩), .agg (itC d false v).toArray] w0 fun e w' => ∃ L' b, e = .returned (.tuple #[]) ∧ VRepF bf (s.addFile d x) L' (bs ++ [b]) ∧ Step (L.map (·.1)) L' w0 w' := by
  obtain ⟨mf, md, vh, Lh, Fs, Ds, Hs, o, rfl⟩ := hR
  have hs : Step (L.map (·.1)) L w0 w0 := hw
  have hobt := o.dir_at hj
  obtain ⟨r, hr, hrp, hv⟩ := hobt
  have hrn : r.n ≤ 1000000 := hn (r.p, r.n) (by rw [← o.D]; exact List.mem_map.2 ⟨r, List.mem_of_getElem? hr, rfl⟩)
  have hvD := o.lookD (splitR d).1
  rw [hv] at hvD
  have hop := o.openD hr
  have hobt := o.setD hr
  obtain ⟨L1, o1, hset⟩ := hobt
  rw [show s.addFile d x = { s.bump j with F := s.F ++ [(d, x)], by_ := s.by_ + x.length } by unfold VS.addFile; rw [hj]]
  have hobt := (hv0 hs).form
  obtain ⟨av, cv, rfl⟩ := hobt
  have hobt : ∃ S, L.map (·.1) = S := ⟨_, rfl⟩
  obtain ⟨S, hS⟩ := hobt
  rw [hS] at hs h0 hv0 ⊢
  refine calls (n := 63) Tryd.func28 rfl rfl rfl ?_
  repeat (first | refine CW.seq ?_ | refine CW.block ?_ | refine CW.skip ?_ | refine CW.label ?_ | refine CW.exit ?_ | refine CW.condT rfl ?_ | refine CW.condF rfl ?_)
  refine CW.reg ?_
  refine WL.box (cs := itC d false (.slice av x.length cv)) rfl rfl rfl hs (fun b3 w hs => ?_)
  refine WL.nil ?_
  repeat (first | refine CW.seq ?_ | refine CW.block ?_ | refine CW.skip ?_ | refine CW.label ?_ | refine CW.exit ?_ | refine CW.condT rfl ?_ | refine CW.condF rfl ?_)
  refine CW.reg ?_
  refine WL.val rfl (run_field (o' := 0) Tryd.underlying50 rfl ty9 rfl rfl rfl) ?_
  refine WL.val rfl (run_load1 ty9 rfl (hs.c0 (v := str d) rfl)) ?_
  refine WL.enter rfl (run_call en49 rfl rfl) (splitP_spec _ (hg.stepS hs h0) hdl) ?_
  rintro e w ⟨rfl, hq⟩
  refine ⟨_, rfl, ?_⟩
  replace hs := hs.callE hq
  refine WL.val rfl (run_move) ?_
  refine WL.val rfl (run_extract rfl rfl) ?_
  refine WL.val rfl (run_extract rfl rfl) ?_
  refine WL.val rfl (run_extract rfl rfl) ?_
  refine WL.val rfl (run_assign) ?_
  refine WL.val rfl (run_assign) ?_
  refine WL.val rfl (run_assign) ?_
  refine WL.nil ?_
  have hs2 := hs.perm ((hop.cons _).trans perm_add1)
  clear hs
  have hs := hs2
  repeat (first | refine CW.seq ?_ | refine CW.block ?_ | refine CW.skip ?_ | refine CW.label ?_ | refine CW.exit ?_ | refine CW.condT rfl ?_ | refine CW.condF rfl ?_)
  refine CW.reg ?_
  refine WL.val rfl (run_move) ?_
  refine WL.val rfl (run_nilCheck rfl) ?_
  refine WL.val rfl (run_field (o' := 1) Tryd.underlying81 rfl ty78 rfl rfl rfl) ?_
  refine WL.val rfl (run_load1 ty78 rfl (hs.c1 (v := .map (some md)) rfl)) ?_
  refine WL.val rfl (run_move) ?_
  refine WL.val rfl (run_lookupSE Tryd.underlying78 Tryd.underlying9 (zDir _) (hvD) rfl rfl (hs.at [_, _])) ?_
  refine WL.val rfl (run_nilCheck rfl) ?_
  refine WL.val rfl (run_field (o' := 1) Tryd.underlying77 rfl ty3 rfl rfl rfl) ?_
  refine WL.val rfl (run_load1 ty3 rfl (hs.c0 (v := .int .i64 (r.n : Nat)) rfl)) ?_
  refine WL.val rfl (run_add (c := ((r.n + 1 : Nat) : Int)) rfl rfl (by omega) (by omega)) ?_
  refine WL.val rfl (run_nilCheck rfl) ?_
  refine WL.val rfl (run_field (o' := 1) Tryd.underlying77 rfl ty3 rfl rfl rfl) ?_
  first | refine WL.store1 ty3 rfl rfl (rfl) hs (by first | (simp; done) | omega | (simp only [List.length_append, List.length_replicate, List.length_cons, List.length_nil, List.length_set]; omega) | (simp [Ent.cells, u8s]; done) | exact Nat.le_of_ble_eq_true rfl) (fun w hs => ?_) | refine WL.store1_1 ty3 rfl rfl (rfl) hs (by first | (simp; done) | omega | (simp only [List.length_append, List.length_replicate, List.length_cons, List.length_nil, List.length_set]; omega) | (simp [Ent.cells, u8s]; done) | exact Nat.le_of_ble_eq_true rfl) (fun w hs => ?_) | refine WL.store1_2 ty3 rfl rfl (rfl) hs (by first | (simp; done) | omega | (simp only [List.length_append, List.length_replicate, List.length_cons, List.length_nil, List.length_set]; omega) | (simp [Ent.cells, u8s]; done) | exact Nat.le_of_ble_eq_true rfl) (fun w hs => ?_) | refine WL.store1_3 ty3 rfl rfl (rfl) hs (by first | (simp; done) | omega | (simp only [List.length_append, List.length_replicate, List.length_cons, List.length_nil, List.length_set]; omega) | (simp [Ent.cells, u8s]; done) | exact Nat.le_of_ble_eq_true rfl) (fun w hs => ?_) | refine WL.store1_4 ty3 rfl rfl (rfl) hs (by first | (simp; done) | omega | (simp only [List.length_append, List.length_replicate, List.length_cons, List.length_nil, List.length_set]; omega) | (simp [Ent.cells, u8s]; done) | exact Nat.le_of_ble_eq_true rfl) (fun w hs => ?_) | refine WL.store1 ty3 rfl rfl (rfl) hs (by first | (simp; done) | omega | (simp only [List.length_append, List.length_replicate, List.length_cons, List.length_nil, List.length_set]; omega) | (simp [Ent.cells, u8s]; done) | exact Nat.le_of_ble_eq_true rfl) (fun w hs => ?_)
  refine WL.nil ?_
  have hs3 := hs.perm (perm_add1.symm.trans (hset.cons _))
  rw [o1.L] at hs3
  clear hs hs2
  have hs := hs3
  repeat (first | refine CW.seq ?_ | refine CW.block ?_ | refine CW.skip ?_ | refine CW.label ?_ | refine CW.exit ?_ | refine CW.condT rfl ?_ | refine CW.condF rfl ?_)
  refine CW.reg ?_
  refine WL.val rfl (run_field (o' := 1) Tryd.underlying50 rfl ty4 rfl rfl rfl) ?_
  refine WL.val rfl (run_load1 ty4 rfl (hs.c0 (v := .bool false) rfl)) ?_
  refine WL.nil ?_
  repeat (first | refine CW.seq ?_ | refine CW.block ?_ | refine CW.skip ?_ | refine CW.label ?_ | refine CW.exit ?_)
  first | refine CW.condP rfl (fun h => ?_) (fun h => ?_) | refine CW.cond rfl (fun h => ?_) (fun h => ?_)
  · cases h
  repeat (first | refine CW.seq ?_ | refine CW.block ?_ | refine CW.skip ?_ | refine CW.label ?_ | refine CW.exit ?_ | refine CW.condT rfl ?_ | refine CW.condF rfl ?_)
  refine CW.any (A := fun w => (w.heap[b3]? = some (blk 50 (itC d false (.slice av x.length cv))) ∧ w.heap[bf]? = some (blk 81 (fsC mf md vh (s.bump j)))) ∧ Sl w 1 (.slice av x.length cv) x.length (u8s x)) (C := fun w => (w.heap[b3]? = some (blk 50 (itC d false (.slice av x.length cv))) ∧ w.heap[bf]? = some (blk 81 (fsC mf md vh (s.bump j)))) ∧ Sl w 1 (.slice av x.length cv) x.length (u8s x)) 1000000 15 mixedP rfl ?_
  replace hs := hs.drew
  refine AL.val 0 rfl (by kernel_rfl) rfl (fun w hs => run_move) ?_
  refine AL.val 1 rfl (by kernel_rfl) rfl (fun w hs => run_nilCheck rfl) ?_
  refine AL.val 2 rfl (by kernel_rfl) rfl (fun w hs => run_field (o' := 0) Tryd.underlying81 rfl ty72 rfl rfl rfl) ?_
  refine AL.val 3 rfl (by kernel_rfl) rfl (fun w hs => run_load1 ty72 rfl ((by rw [cell_blk hs.1.2]; rfl))) ?_
  refine AL.val 4 rfl (by kernel_rfl) rfl (fun w hs => run_field (o' := 0) Tryd.underlying50 rfl ty9 rfl rfl rfl) ?_
  refine AL.val 5 rfl (by kernel_rfl) rfl (fun w hs => run_load1 ty9 rfl ((by rw [cell_blk hs.1.1]; rfl))) ?_
  refine AL.val 6 rfl (by kernel_rfl) rfl (fun w hs => run_field (o' := 0) Tryd.underlying50 rfl ty9 rfl rfl rfl) ?_
  refine AL.val 7 rfl (by kernel_rfl) rfl (fun w hs => run_load1 ty9 rfl ((by rw [cell_blk hs.1.1]; rfl))) ?_
  refine AL.val 8 rfl (by kernel_rfl) rfl (fun w hs => run_build rfl (bld_com d _)) ?_
  refine AL.val 9 rfl (by kernel_rfl) rfl (fun w hs => run_field (o' := 2) Tryd.underlying50 rfl ty34 rfl rfl rfl) ?_
  refine AL.val 10 rfl (by kernel_rfl) rfl (fun w hs => run_load1 ty34 rfl ((by rw [cell_blk hs.1.1]; rfl))) ?_
  refine AL.one 11 (by kernel_rfl) rfl (by first | exact ⟨⟨hs.hd, hs.tail.hd⟩, hv0 hs⟩ | exact ⟨⟨hs.tail.hd, hs.tail.tail.hd⟩, hv0 hs⟩ | exact ⟨⟨hs.tail.tail.hd, hs.tail.tail.tail.hd⟩, hv0 hs⟩) (by first | exact ⟨⟨hs.hd, hs.tail.hd⟩, hv0 hs⟩ | exact ⟨⟨hs.tail.hd, hs.tail.tail.hd⟩, hv0 hs⟩ | exact ⟨⟨hs.tail.tail.hd, hs.tail.tail.tail.hd⟩, hv0 hs⟩) ?_
  refine WL.enter rfl (run_call en37 rfl rfl) (clone_spec _ (hv0 hs) (by omega)) ?_
  rintro e w ⟨v', Lv, rfl, hu, hq⟩
  refine ⟨_, rfl, ?_⟩
  obtain ⟨au, cu, rfl⟩ := hu.form
  replace hs := (hs.call0 hq).perm perm_add3
  refine WL.nil ?_
  refine ⟨rfl, ?_⟩
  refine AL.val 12 rfl (by kernel_rfl) rfl (fun w hs => run_build rfl (bld_file d au x.length cu _)) ?_
  refine AL.one 13 (by kernel_rfl) rfl (by first | exact ⟨⟨hs.hd, hs.tail.hd⟩, hv0 hs⟩ | exact ⟨⟨hs.tail.hd, hs.tail.tail.hd⟩, hv0 hs⟩ | exact ⟨⟨hs.tail.tail.hd, hs.tail.tail.tail.hd⟩, hv0 hs⟩) (by first | exact ⟨⟨hs.hd, hs.tail.hd⟩, hv0 hs⟩ | exact ⟨⟨hs.tail.hd, hs.tail.tail.hd⟩, hv0 hs⟩ | exact ⟨⟨hs.tail.tail.hd, hs.tail.tail.tail.hd⟩, hv0 hs⟩) ?_
  refine WL.box (cs := [str d, .slice au x.length cu]) rfl rfl rfl hs (fun b52 w hs => ?_)
  refine WL.nil ?_
  refine ⟨rfl, ?_⟩
  refine AL.one 14 (by kernel_rfl) rfl (by first | exact ⟨⟨hs.hd, hs.tail.hd⟩, hv0 hs⟩ | exact ⟨⟨hs.tail.hd, hs.tail.tail.hd⟩, hv0 hs⟩ | exact ⟨⟨hs.tail.tail.hd, hs.tail.tail.tail.hd⟩, hv0 hs⟩) (by first | exact ⟨⟨hs.hd, hs.tail.hd⟩, hv0 hs⟩ | exact ⟨⟨hs.tail.hd, hs.tail.tail.hd⟩, hv0 hs⟩ | exact ⟨⟨hs.tail.tail.hd, hs.tail.tail.tail.hd⟩, hv0 hs⟩) ?_
  refine WL.mapPutS Tryd.underlying72 Tryd.underlying9 rfl rfl rfl (hs.front [_, _, _]) (fun w hs => ?_)
  refine WL.nil ?_
  refine ⟨rfl, ?_⟩
  refine AL.end (by kernel_rfl) (by first | exact ⟨⟨hs.hd, hs.tail.hd⟩, hv0 hs⟩ | exact ⟨⟨hs.tail.hd, hs.tail.tail.hd⟩, hv0 hs⟩ | exact ⟨⟨hs.tail.tail.hd, hs.tail.tail.tail.hd⟩, hv0 hs⟩) (by first | exact ⟨⟨hs.hd, hs.tail.hd⟩, hv0 hs⟩ | exact ⟨⟨hs.tail.hd, hs.tail.tail.hd⟩, hv0 hs⟩ | exact ⟨⟨hs.tail.tail.hd, hs.tail.tail.tail.hd⟩, hv0 hs⟩) ?_
  have hobt : ∃ by1, s.by_ + x.length = by1 := ⟨_, rfl⟩
  obtain ⟨by1, hby1⟩ := hobt
  rw [hby1]
  repeat (first | refine CW.seq ?_ | refine CW.block ?_ | refine CW.skip ?_ | refine CW.label ?_ | refine CW.exit ?_ | refine CW.condT rfl ?_ | refine CW.condF rfl ?_)
  refine CW.quietT (l1 := [_, _, _, _, _, _, _, _, _, _]) (l2 := [_]) 10 rfl mixedP rfl (by kernel_rfl) hs ?_
  refine QL.val rfl (fun w hs => run_move) ?_
  refine QL.val rfl (fun w hs => run_nilCheck rfl) ?_
  refine QL.val rfl (fun w hs => run_field (o' := 6) Tryd.underlying81 rfl ty3 rfl rfl rfl) ?_
  refine QL.val rfl (fun w hs => run_load1 ty3 rfl (hs.c3 (v := .int .i64 (s.by_ : Nat)) rfl)) ?_
  refine QL.val rfl (fun w hs => run_field (o' := 2) Tryd.underlying50 rfl ty34 rfl rfl rfl) ?_
  refine QL.val rfl (fun w hs => run_load1 ty34 rfl (hs.c2 (v := .slice av x.length cv) rfl)) ?_
  refine QL.val rfl (fun w hs => run_lenSl Tryd.underlying34 rfl) ?_
  refine QL.val rfl (fun w hs => run_add (c := (by1 : Nat)) rfl rfl (by omega) (by omega)) ?_
  refine QL.val rfl (fun w hs => run_nilCheck rfl) ?_
  refine QL.val rfl (fun w hs => run_field (o' := 6) Tryd.underlying81 rfl ty3 rfl rfl rfl) ?_
  refine QL.nil (fun w hs => ?_)
  first | refine WL.store1 ty3 rfl rfl (rfl) hs (by first | (simp; done) | omega | (simp only [List.length_append, List.length_replicate, List.length_cons, List.length_nil, List.length_set]; omega) | (simp [Ent.cells, u8s]; done) | exact Nat.le_of_ble_eq_true rfl) (fun w hs => ?_) | refine WL.store1_1 ty3 rfl rfl (rfl) hs (by first | (simp; done) | omega | (simp only [List.length_append, List.length_replicate, List.length_cons, List.length_nil, List.length_set]; omega) | (simp [Ent.cells, u8s]; done) | exact Nat.le_of_ble_eq_true rfl) (fun w hs => ?_) | refine WL.store1_2 ty3 rfl rfl (rfl) hs (by first | (simp; done) | omega | (simp only [List.length_append, List.length_replicate, List.length_cons, List.length_nil, List.length_set]; omega) | (simp [Ent.cells, u8s]; done) | exact Nat.le_of_ble_eq_true rfl) (fun w hs => ?_) | refine WL.store1_3 ty3 rfl rfl (rfl) hs (by first | (simp; done) | omega | (simp only [List.length_append, List.length_replicate, List.length_cons, List.length_nil, List.length_set]; omega) | (simp [Ent.cells, u8s]; done) | exact Nat.le_of_ble_eq_true rfl) (fun w hs => ?_) | refine WL.store1_4 ty3 rfl rfl (rfl) hs (by first | (simp; done) | omega | (simp only [List.length_append, List.length_replicate, List.length_cons, List.length_nil, List.length_set]; omega) | (simp [Ent.cells, u8s]; done) | exact Nat.le_of_ble_eq_true rfl) (fun w hs => ?_) | refine WL.store1 ty3 rfl rfl (rfl) hs (by first | (simp; done) | omega | (simp only [List.length_append, List.length_replicate, List.length_cons, List.length_nil, List.length_set]; omega) | (simp [Ent.cells, u8s]; done) | exact Nat.le_of_ble_eq_true rfl) (fun w hs => ?_)
  refine WL.nil ?_
  replace hs : Step S ((mf, mapS (putMS d (.pointer (some ⟨b52, 0, none⟩)) Fs.length (mapF Fs 0)) (putCS d Fs.length (mapF Fs 0))) :: (b52, blk 89 [str d, .slice au x.length cu]) :: (b3, blk 50 (itC d false (.slice av x.length cv))) :: (bf, blk 81 (fsC mf md vh { s.bump j with by_ := by1 })) :: (Lv ++ ((md, mapS (mapDi (Ds.set j { p := r.p, b := r.b, n := r.n + 1 }) 0) (Ds.set j { p := r.p, b := r.b, n := r.n + 1 }).length) :: (Lh ++ (Fs.flatMap FB.own ++ ((Ds.set j { p := r.p, b := r.b, n := r.n + 1 }).flatMap DB.own ++ Hs.flatMap HB.own)))))) w0 w := hs
  have hs4 := (hs.perm perm_add4).tail
  have hobt := o1.newF hnew b52 by1 hu (List.Perm.refl _)
  obtain ⟨L', hL', hp⟩ := hobt
  repeat (first | refine CW.seq ?_ | refine CW.block ?_ | refine CW.skip ?_ | refine CW.label ?_ | refine CW.exit ?_ | refine CW.condT rfl ?_ | refine CW.condF rfl ?_)
  refine fin_end0 rfl ?_
  exact ⟨L', b52, rfl, ⟨_, _, _, _, _, _, _, hL', by rw [List.map_append]; rfl⟩, hs4.perm hp⟩
end
end Go.Gx
