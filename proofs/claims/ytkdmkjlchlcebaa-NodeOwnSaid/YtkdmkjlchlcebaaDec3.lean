/- mint.Read of node.Decode's reading function; node.Decode. -/
import Derived.Test.YtkdmkjlchlcebaaDec2
namespace Go.Gx
open Go.Proofs
set_option linter.unusedVariables false
set_option linter.unusedSimpArgs false
set_option maxRecDepth 100000

theorem OwnSl.room {E sz k : Nat} {v : Value} {xs : List Value} {Lv : List (Nat × Obj)} (h : OwnSl E sz v k xs Lv) (hsz : 0 < sz) : Room v := by
  obtain ⟨hl, ⟨rfl, rfl, rfl⟩ | ⟨b, cap, more, rfl, rfl, hc⟩⟩ := h
  · exact Nat.le_refl 0
  · show k ≤ cap
    rw [List.length_append, hl] at hc
    exact Nat.le_of_mul_le_mul_right (by omega : k * sz ≤ cap * sz) hsz
theorem Sl.stepK {S : List Nat} {L : List (Nat × Obj)} {w w' : World} {sz n : Nat} {v : Value} {cs : List Value} (h : Sl w sz v n cs) (hs : Step S L w w') (hS : cs = [] ∨ Outside v S) : Sl w' sz v n cs := by
  rcases hS with rfl | hS
  · obtain ⟨hl, h | ⟨b, off, c, hv, _⟩⟩ := h
    · exact ⟨hl, .inl h⟩
    · exact ⟨hl, .inr ⟨b, off, c, hv, At.nil⟩⟩
  · exact h.step hs hS
/-- What a new block is beside what was there. -/
theorem Outside.newer {S : List Nat} {L : List (Nat × Obj)} {w0 w : World} {sz n : Nat} {v : Value} {cs : List Value} (h : Sl w0 sz v n cs) (hs : Step [] L w0 w) (hsub : ∀ k ∈ S, k ∈ L.map (·.1)) : cs = [] ∨ Outside v S := by
  by_cases hc : cs = []
  · exact .inl hc
  · exact .inr (Outside.fresh h hc hs (outside_nil v) hsub)

theorem entP_err {bs a : List UInt8} {p : Nat} {e : Int} (h : entP a bs p = .error e) : e ≠ 0 := by
  have hb : ∀ {p : Nat} {e : Int}, bytesP bs p = .error e → e ≠ 0 := fun {p e} h => by
    unfold bytesP at h
    split at h
    · rename_i h1; injection h with h; subst h; rcases numP_err h1 with h | h <;> omega
    · split at h
      · injection h with h; omega
      · cases h
  unfold entP at h
  split at h
  · rename_i h1; injection h with h; subst h; rcases numP_err h1 with h | h <;> omega
  · split at h
    · split at h
      · rename_i h1; injection h with h; subst h; exact hb h1
      · split at h
        · split at h
          · rename_i h1; injection h with h; subst h; exact hb h1
          · split at h
            · injection h with h; omega
            · cases h
        · injection h with h; omega
    · injection h with h; omega
theorem entsP_err {bs : List UInt8} : ∀ {n : Nat} {a : List UInt8} {p : Nat} {e : Int}, entsP bs n a p = .error e → e ≠ 0
  | 0, a, p, e, h => by cases h
  | n + 1, a, p, e, h => by
    unfold entsP at h
    split at h
    · rename_i h1; injection h with h; subst h; exact entP_err h1
    · split at h
      · rename_i h1; injection h with h; subst h; exact entsP_err h1
      · cases h
theorem decP_err {bs : List UInt8} {e : Int} (h : decP bs = .error e) : e ≠ 0 := by
  unfold decP at h
  split at h
  · rename_i h1; injection h with h; subst h; rcases numP_err h1 with h | h <;> omega
  · split at h
    · split at h
      · rename_i h1
        injection h with h; subst h
        unfold mostP at h1
        split at h1
        · rename_i h2; injection h1 with h; subst h; rcases numP_err h2 with h | h <;> omega
        · split at h1
          · injection h1 with h; omega
          · cases h1
      · exact entsP_err h
    · injection h with h; omega

def readP (bs : List UInt8) : Int × List Ent := match decP bs with
  | .error e => (e, [])
  | .ok (l, q) => if q < bs.length then (13, []) else (0, l)

/-- What Read leaves: the list's cell, and the error. -/
def ReadR (bl : Nat) (bs : List UInt8) (w0 : World) (e : Ending) (w' : World) : Prop := ∃ u Lv G, e = .returned (.int .i64 (readP bs).1) ∧ Cell1 u ∧ ((readP bs).1 = 0 → OwnSl 48 34 u (readP bs).2.length (rows (readP bs).2) Lv ∧ Oks (readP bs).2 ∧ (readP bs).2.length ≤ 1024) ∧ Step [bl] ((bl, blk 22 [u]) :: (Lv ++ G)) w0 w'

theorem Step.two {S : List Nat} {p a b : Nat × Obj} {X Y : List (Nat × Obj)} {w0 w : World} (h : Step S (p :: (X ++ (a :: b :: Y))) w0 w) : Step S (p :: a :: b :: (X ++ Y)) w0 w :=
  h.perm (List.Perm.cons _ (List.perm_middle.trans (List.Perm.cons _ List.perm_middle)))

theorem bld_reader (a : Option Addr) (m c : Nat) (w : World) : (Instr.build 104 #[(0, .slice a m c)]).run Try.prog w = .ok (.agg #[.slice a m c, .int .i64 0, .bool false, .int .i64 0]) w := by kernel_rfl

theorem read_at {bl : Nat} {bs : List UInt8} {v : Value} (w0 : World) (hv : Sl w0 1 v bs.length (u8s bs)) (hout : u8s bs = [] ∨ Outside v [bl]) (hlen : bs.length ≤ 1048576) (hO : Step [bl] [(bl, blk 22 [.slice none 0 0])] w0 w0) :
    Calls Try.prog 45 #[v, .func (.func 46) #[] #[.pointer (some ⟨bl, 0, none⟩)]] w0 (ReadR bl bs w0) := by
  have hs := hO
  refine callsDef (n := 14) Try.func45 rfl rfl rfl ?_
  repeat (first | refine CW.seq ?_ | refine CW.block ?_ | refine CW.skip ?_ | refine CW.label ?_ | refine CW.exit ?_ | refine CW.condT rfl ?_ | refine CW.condF rfl ?_)
  refine CW.reg ?_
  refine WL.alloc ty25 rfl hs (fun b4 w hs => ?_)
  refine WL.nil ?_
  repeat (first | refine CW.seq ?_ | refine CW.block ?_ | refine CW.skip ?_ | refine CW.label ?_ | refine CW.exit ?_ | refine CW.condT rfl ?_ | refine CW.condF rfl ?_)
  refine CW.reg ?_
  refine WL.val rfl (run_move) ?_
  refine WL.enter rfl (run_call en66 rfl rfl) (clone_spec (s := bs) _ (hv.stepK hs hout) (by omega)) ?_
  rintro e w ⟨v', Lv', rfl, hv', hq⟩
  refine ⟨_, rfl, ?_⟩
  have hobt := hv'.form
  obtain ⟨va, vc, rfl⟩ := hobt
  replace hs := (hs.call0 hq).append_comm
  refine WL.val rfl (run_build rfl (bld_reader _ _ _ _)) ?_
  refine WL.box (cs := [.slice va bs.length vc, .int .i64 0, .bool false, .int .i64 0]) rfl rfl rfl hs (fun b9 w hs => ?_)
  refine WL.alloc ty77 rfl hs (fun b5 w hs => ?_)
  refine WL.store1 ty77 rfl rfl (rfl) (hs) (by first | (simp; done) | omega | (simp only [List.length_append, List.length_replicate, List.length_cons, List.length_nil, List.length_set]; omega) | (simp [Ent.cells, u8s]; done) | exact Nat.le_of_ble_eq_true rfl) (fun w hs => ?_)
  refine WL.nil ?_
  replace hs := Step.front [_, _] (Step.front [_, _, _] hs)
  have hs4 := hs
  have hown : Step [b9, bl] [RB b9 (.slice va bs.length vc) 0, (bl, blk 22 [.slice none 0 0])] w w := Step.own (L1 := [_, _]) hs
  have hcomm := Step.append_comm (L1 := [_, _, _, _]) hs
  have hsl := hv'.sl hcomm
  have hvo : Outside (.slice va bs.length vc) [b9, bl] := hv'.outside fun p hp h => hcomm.disj p hp (by simp at h ⊢; rcases h with h | h <;> simp [h])
  repeat (first | refine CW.seq ?_ | refine CW.block ?_ | refine CW.skip ?_ | refine CW.label ?_ | refine CW.exit ?_ | refine CW.condT rfl ?_ | refine CW.condF rfl ?_)
  refine CW.reg ?_
  refine WL.val rfl (run_makeFuncC rfl) ?_
  refine WL.defer (run_deferV (cap := [.pointer (some ⟨b5, 0, none⟩), .pointer (some ⟨b4, 0, none⟩)]) rfl) ?_
  refine WL.nil ?_
  have hdec := fun r hr => dec2_at (r := r) hr w hsl hvo (hv'.room (by decide)) hlen hown
  cases hr : decP bs with
  | error er =>
    have hne := decP_err hr
    have he : readP bs = (er, []) := by unfold readP; rw [hr]
    repeat (first | refine CW.seq ?_ | refine CW.block ?_ | refine CW.skip ?_ | refine CW.label ?_ | refine CW.exit ?_ | refine CW.condT rfl ?_ | refine CW.condF rfl ?_)
    refine CW.reg ?_
    refine WL.val rfl (run_move) ?_
    refine WL.val rfl (run_load1 ty77 rfl ((hs.tail.tail.c0 rfl))) ?_
    refine WL.enterX (run_callV (cap := [.pointer (some ⟨bl, 0, none⟩)]) en46 rfl rfl) (hdec _ hr) ?_
    rintro e w ⟨p, u, Lu, rfl, hu1, hq2⟩
    refine ⟨_, rfl, ?_⟩
    replace hs := Step.two (X := _ :: Lu) (Step.call (L1 := [RB b9 _ 0, (bl, _)]) hs hq2)
    refine finD_panic (cap := [.pointer (some ⟨b5, 0, none⟩), .pointer (some ⟨b4, 0, none⟩)]) en68 ((rd1_panic hne _ (Step.own (L1 := [_, _, _]) hs)).mono fun e u' w' h => ?_)
    obtain ⟨h1, h2, hq3⟩ := h
    refine ⟨h1, h2, fun a ha => ?_⟩
    replace hs := Step.call (L1 := [_, _, _]) hs hq3
    exact ⟨_, res_cell1 ha rfl rfl (run_loadVar1 ty25 (hs.c2 rfl)), u, Lu, Lv', by rw [he], hu1, fun h => absurd (by rw [he] at h; exact h) hne, Step.dropL (L1 := [_, _, _]) hs⟩
  | ok lq =>
    obtain ⟨l, q⟩ := lq
    repeat (first | refine CW.seq ?_ | refine CW.block ?_ | refine CW.skip ?_ | refine CW.label ?_ | refine CW.exit ?_ | refine CW.condT rfl ?_ | refine CW.condF rfl ?_)
    refine CW.reg ?_
    refine WL.val rfl (run_move) ?_
    refine WL.val rfl (run_load1 ty77 rfl ((hs.tail.tail.c0 rfl))) ?_
    refine WL.enter rfl (run_callV (cap := [.pointer (some ⟨bl, 0, none⟩)]) en46 rfl rfl) (hdec _ hr) ?_
    rintro e w ⟨u, Lu, rfl, hu, hlo, hll, hqb, hq2⟩
    refine ⟨_, rfl, ?_⟩
    refine WL.nil ?_
    replace hs := Step.front [_, _] (Step.two (X := _ :: Lu) (Step.call (L1 := [RB b9 _ 0, (bl, _)]) hs hq2))
    repeat (first | refine CW.seq ?_ | refine CW.block ?_ | refine CW.skip ?_ | refine CW.label ?_ | refine CW.exit ?_ | refine CW.condT rfl ?_ | refine CW.condF rfl ?_)
    refine CW.reg ?_
    refine WL.store1 ty25 rfl rfl (rfl) (hs) (by first | (simp; done) | omega | (simp only [List.length_append, List.length_replicate, List.length_cons, List.length_nil, List.length_set]; omega) | (simp [Ent.cells, u8s]; done) | exact Nat.le_of_ble_eq_true rfl) (fun w hs => ?_)
    refine WL.nil ?_
    replace hs := hs.rot3.rot3
    repeat (first | refine CW.seq ?_ | refine CW.block ?_ | refine CW.skip ?_ | refine CW.label ?_ | refine CW.exit ?_ | refine CW.condT rfl ?_ | refine CW.condF rfl ?_)
    refine CW.ret ?_
    refine finD_ret (cap := [.pointer (some ⟨b5, 0, none⟩), .pointer (some ⟨b4, 0, none⟩)]) en68 ((rd1_ret _ (Step.own (L1 := [_, _, _]) hs)).mono fun e u' w' h => ?_)
    obtain ⟨h1, h2, hq3⟩ := h
    refine ⟨h1, h2, fun a ha => ?_⟩
    replace hs := Step.call (L1 := [_, _, _]) hs hq3
    refine ⟨_, res_cell1 ha rfl rfl (run_loadVar1 ty25 (hs.c2 rfl)), u, Lu, Lv', ?_, hu.one, ?_, Step.dropL (L1 := [_, _, _]) hs⟩
    · unfold readP
      rw [hr]
      by_cases hlt : q < bs.length <;> simp [hlt]
    · intro h0
      have he : readP bs = (0, l) := by
        unfold readP at h0 ⊢
        rw [hr] at h0 ⊢
        simp only at h0 ⊢
        split at h0
        · cases h0
        · rename_i hlt; rw [if_neg hlt]
      rw [he]
      exact ⟨hu, hlo, hll⟩

def decE (bs : List UInt8) : Int := if 1048576 < bs.length then 2 else (readP bs).1
def decL (bs : List UInt8) : List Ent := if decE bs = 0 then (readP bs).2 else []

/-- Decode's deferred call. -/
theorem dec1_at {b2 b3 : Nat} {er : Int} {u : Value} {md : FrameMode} (w0 : World) (hO : Step [b2, b3] [(b2, blk 22 [u]), (b3, blk 25 [.int .i64 er])] w0 w0) :
    CallsD Try.prog 44 #[.pointer (some ⟨b3, 0, none⟩), .pointer (some ⟨b2, 0, none⟩)] md w0 fun e u' w' => u' = md ∧ (e = .returned (.tuple #[]) ∧ Step [b2, b3] [(b2, blk 22 [if er = 0 then u else .slice none 0 0]), (b3, blk 25 [.int .i64 er])] w0 w') := by
  have hs := hO
  refine callsD_plain (n := 4) Try.func44 rfl rfl rfl ?_
  by_cases he : er = 0
  · repeat (first | refine CW.seq ?_ | refine CW.block ?_ | refine CW.skip ?_ | refine CW.label ?_ | refine CW.exit ?_ | refine CW.condT rfl ?_ | refine CW.condF rfl ?_)
    refine CW.reg ?_
    refine WL.val rfl (run_load1 ty25 rfl (hs.c1 rfl)) ?_
    refine WL.val rfl (run_bF (run_neq rfl rfl) (by simpa using he)) ?_
    refine WL.nil ?_
    repeat (first | refine CW.seq ?_ | refine CW.block ?_ | refine CW.skip ?_ | refine CW.label ?_ | refine CW.exit ?_ | refine CW.condT rfl ?_ | refine CW.condF rfl ?_)
    refine fin_end0 rfl ?_
    rw [if_pos he]
    exact ⟨rfl, hs⟩
  · repeat (first | refine CW.seq ?_ | refine CW.block ?_ | refine CW.skip ?_ | refine CW.label ?_ | refine CW.exit ?_ | refine CW.condT rfl ?_ | refine CW.condF rfl ?_)
    refine CW.reg ?_
    refine WL.val rfl (run_load1 ty25 rfl (hs.c1 rfl)) ?_
    refine WL.val rfl (run_bT (run_neq rfl rfl) (by exact he)) ?_
    refine WL.nil ?_
    repeat (first | refine CW.seq ?_ | refine CW.block ?_ | refine CW.skip ?_ | refine CW.label ?_ | refine CW.exit ?_ | refine CW.condT rfl ?_ | refine CW.condF rfl ?_)
    refine CW.reg ?_
    refine WL.store1 ty22 rfl rfl (rfl) (hs) (by first | (simp; done) | omega | (simp only [List.length_append, List.length_replicate, List.length_cons, List.length_nil, List.length_set]; omega) | (simp [Ent.cells, u8s]; done) | exact Nat.le_of_ble_eq_true rfl) (fun w hs => ?_)
    refine WL.nil ?_
    repeat (first | refine CW.seq ?_ | refine CW.block ?_ | refine CW.skip ?_ | refine CW.label ?_ | refine CW.exit ?_ | refine CW.condT rfl ?_ | refine CW.condF rfl ?_)
    refine fin_end0 rfl ?_
    rw [if_neg he]
    exact ⟨rfl, hs⟩

theorem decode_at {bs : List UInt8} {v : Value} (w0 : World) (hv : Sl w0 1 v bs.length (u8s bs)) (hlen : bs.length ≤ 9223372036854775807) :
    Calls Try.prog 19 #[v] w0 fun e w' => ∃ u Lv, e = .returned (.tuple #[u, .int .i64 (decE bs)]) ∧ OwnSl 48 34 u (decL bs).length (rows (decL bs)) Lv ∧ Oks (decL bs) ∧ (decL bs).length ≤ 1024 ∧ Step [] Lv w0 w' := by
  have hs : Step [] [] w0 w0 := Step.refl w0
  obtain ⟨a, c, rfl⟩ : ∃ a c, v = .slice a bs.length c := by
    have hobt := id hv
    obtain ⟨_, ⟨_, c, rfl, h0⟩ | ⟨b, off, c, rfl, _⟩⟩ := hobt
    · exact ⟨_, _, by rw [h0]⟩
    · exact ⟨_, _, rfl⟩
  refine callsDef (n := 13) Try.func19 rfl rfl rfl ?_
  repeat (first | refine CW.seq ?_ | refine CW.block ?_ | refine CW.skip ?_ | refine CW.label ?_ | refine CW.exit ?_ | refine CW.condT rfl ?_ | refine CW.condF rfl ?_)
  refine CW.reg ?_
  refine WL.alloc ty22 rfl hs (fun b2 w hs => ?_)
  refine WL.alloc ty25 rfl hs (fun b3 w hs => ?_)
  refine WL.nil ?_
  by_cases hbig : 1048576 < bs.length
  · have he : decE bs = 2 := if_pos hbig
    have hl : decL bs = [] := by unfold decL; rw [he]; rfl
    repeat (first | refine CW.seq ?_ | refine CW.block ?_ | refine CW.skip ?_ | refine CW.label ?_ | refine CW.exit ?_ | refine CW.condT rfl ?_ | refine CW.condF rfl ?_)
    refine CW.reg ?_
    refine WL.val rfl (run_move) ?_
    refine WL.val rfl (run_lenSl Try.underlying29 rfl) ?_
    refine WL.val rfl (run_bT (run_gtr rfl rfl) (by omega)) ?_
    refine WL.nil ?_
    repeat (first | refine CW.seq ?_ | refine CW.block ?_ | refine CW.skip ?_ | refine CW.label ?_ | refine CW.exit ?_ | refine CW.condT rfl ?_ | refine CW.condF rfl ?_)
    refine CW.reg ?_
    refine WL.store1 ty22 rfl rfl (rfl) (hs.swap) (by first | (simp; done) | omega | (simp only [List.length_append, List.length_replicate, List.length_cons, List.length_nil, List.length_set]; omega) | (simp [Ent.cells, u8s]; done) | exact Nat.le_of_ble_eq_true rfl) (fun w hs => ?_)
    refine WL.store1 ty25 rfl rfl (rfl) (hs.swap) (by first | (simp; done) | omega | (simp only [List.length_append, List.length_replicate, List.length_cons, List.length_nil, List.length_set]; omega) | (simp [Ent.cells, u8s]; done) | exact Nat.le_of_ble_eq_true rfl) (fun w hs => ?_)
    refine WL.nil ?_
    repeat (first | refine CW.seq ?_ | refine CW.block ?_ | refine CW.skip ?_ | refine CW.label ?_ | refine CW.exit ?_ | refine CW.condT rfl ?_ | refine CW.condF rfl ?_)
    refine CW.ret ?_
    refine finD_ret0 fun a ha => ⟨_, res_cell2 ha rfl rfl rfl (run_loadVar1 ty22 (hs.c1 rfl)) (run_loadVar1 ty25 (hs.c0 rfl)), ?_⟩
    rw [he, hl]
    exact ⟨_, _, rfl, .nil _ _, Oks.nil, by simp, hs.clear⟩
  · have he : decE bs = (readP bs).1 := if_neg hbig
    repeat (first | refine CW.seq ?_ | refine CW.block ?_ | refine CW.skip ?_ | refine CW.label ?_ | refine CW.exit ?_ | refine CW.condT rfl ?_ | refine CW.condF rfl ?_)
    refine CW.reg ?_
    refine WL.val rfl (run_move) ?_
    refine WL.val rfl (run_lenSl Try.underlying29 rfl) ?_
    refine WL.val rfl (run_bF (run_gtr rfl rfl) (by omega)) ?_
    refine WL.nil ?_
    repeat (first | refine CW.seq ?_ | refine CW.block ?_ | refine CW.skip ?_ | refine CW.label ?_ | refine CW.exit ?_ | refine CW.condT rfl ?_ | refine CW.condF rfl ?_)
    refine CW.reg ?_
    refine WL.val rfl (run_makeFuncC rfl) ?_
    refine WL.defer (run_deferV (cap := [.pointer (some ⟨b3, 0, none⟩), .pointer (some ⟨b2, 0, none⟩)]) rfl) ?_
    refine WL.nil ?_
    replace hs := hs.swap
    repeat (first | refine CW.seq ?_ | refine CW.block ?_ | refine CW.skip ?_ | refine CW.label ?_ | refine CW.exit ?_ | refine CW.condT rfl ?_ | refine CW.condF rfl ?_)
    refine CW.reg ?_
    refine WL.val rfl (run_move) ?_
    refine WL.val rfl (run_makeFuncC rfl) ?_
    refine WL.enter rfl (run_call en45 rfl rfl) (read_at _ (hv.step0 hs.clear) (Outside.newer hv hs (fun k hk => by simp at hk ⊢; exact .inl hk)) (by omega) (Step.own (L1 := [_]) hs)) ?_
    rintro e w ⟨u, Lv, G, rfl, hu1, hok, hq⟩
    refine ⟨_, rfl, ?_⟩
    replace hs := Step.call (L1 := [_]) hs hq
    replace hs := Step.append_comm hs
    refine WL.store1 ty25 rfl rfl (rfl) (hs) (by first | (simp; done) | omega | (simp only [List.length_append, List.length_replicate, List.length_cons, List.length_nil, List.length_set]; omega) | (simp [Ent.cells, u8s]; done) | exact Nat.le_of_ble_eq_true rfl) (fun w hs => ?_)
    refine WL.nil ?_
    replace hs := hs.swap
    repeat (first | refine CW.seq ?_ | refine CW.block ?_ | refine CW.skip ?_ | refine CW.label ?_ | refine CW.exit ?_ | refine CW.condT rfl ?_ | refine CW.condF rfl ?_)
    refine CW.any (A := fun w => Step [] [(b2, blk 22 [u]), (b3, blk 25 [.int .i64 (readP bs).1])] w0 w) (C := fun w => Step [] [(b2, blk 22 [u]), (b3, blk 25 [.int .i64 (readP bs).1])] w0 w) 1000000 4 mixedP rfl ?_
    replace hs := hs.drew
    refine AL.val 0 rfl (by kernel_rfl) rfl (fun w hs => run_load1 ty22 rfl (hs.c0 rfl)) ?_
    refine AL.val 1 rfl (by kernel_rfl) rfl (fun w hs => run_load1 ty25 rfl (hs.c1 rfl)) ?_
    refine AL.one 2 (by kernel_rfl) rfl (Step.dropR (L1 := [_, _]) hs) (Step.dropR (L1 := [_, _]) hs) ?_
    first | refine WL.store1 ty22 rfl rfl (hu1) hs (by first | (simp; done) | omega | (simp only [List.length_append, List.length_replicate, List.length_cons, List.length_nil, List.length_set]; omega) | (simp [Ent.cells, u8s]; done) | exact Nat.le_of_ble_eq_true rfl) (fun w hs => ?_) | refine WL.store1_1 ty22 rfl rfl (hu1) hs (by first | (simp; done) | omega | (simp only [List.length_append, List.length_replicate, List.length_cons, List.length_nil, List.length_set]; omega) | (simp [Ent.cells, u8s]; done) | exact Nat.le_of_ble_eq_true rfl) (fun w hs => ?_) | refine WL.store1_2 ty22 rfl rfl (hu1) hs (by first | (simp; done) | omega | (simp only [List.length_append, List.length_replicate, List.length_cons, List.length_nil, List.length_set]; omega) | (simp [Ent.cells, u8s]; done) | exact Nat.le_of_ble_eq_true rfl) (fun w hs => ?_) | refine WL.store1_3 ty22 rfl rfl (hu1) hs (by first | (simp; done) | omega | (simp only [List.length_append, List.length_replicate, List.length_cons, List.length_nil, List.length_set]; omega) | (simp [Ent.cells, u8s]; done) | exact Nat.le_of_ble_eq_true rfl) (fun w hs => ?_) | refine WL.store1_4 ty22 rfl rfl (hu1) hs (by first | (simp; done) | omega | (simp only [List.length_append, List.length_replicate, List.length_cons, List.length_nil, List.length_set]; omega) | (simp [Ent.cells, u8s]; done) | exact Nat.le_of_ble_eq_true rfl) (fun w hs => ?_) | refine WL.store1 ty22 rfl rfl (hu1) hs (by first | (simp; done) | omega | (simp only [List.length_append, List.length_replicate, List.length_cons, List.length_nil, List.length_set]; omega) | (simp [Ent.cells, u8s]; done) | exact Nat.le_of_ble_eq_true rfl) (fun w hs => ?_)
    refine WL.nil ?_
    refine ⟨rfl, ?_⟩
    refine AL.one 3 (by kernel_rfl) rfl (Step.dropR (L1 := [_, _]) hs) (Step.dropR (L1 := [_, _]) hs) ?_
    refine WL.store1 ty25 rfl rfl (rfl) (hs.swap) (by first | (simp; done) | omega | (simp only [List.length_append, List.length_replicate, List.length_cons, List.length_nil, List.length_set]; omega) | (simp [Ent.cells, u8s]; done) | exact Nat.le_of_ble_eq_true rfl) (fun w hs => ?_)
    replace hs := hs.swap
    refine WL.nil ?_
    refine ⟨rfl, ?_⟩
    refine AL.end (by kernel_rfl) (Step.dropR (L1 := [_, _]) hs) (Step.dropR (L1 := [_, _]) hs) ?_
    repeat (first | refine CW.seq ?_ | refine CW.block ?_ | refine CW.skip ?_ | refine CW.label ?_ | refine CW.exit ?_ | refine CW.condT rfl ?_ | refine CW.condF rfl ?_)
    refine CW.ret ?_
    refine finD_ret (cap := [.pointer (some ⟨b3, 0, none⟩), .pointer (some ⟨b2, 0, none⟩)]) en44 ((dec1_at _ (Step.own (L1 := [_, _]) hs)).mono fun e u' w' h => ?_)
    obtain ⟨h1, rfl, hq3⟩ := h
    refine ⟨⟨_, rfl⟩, by rw [h1]; rfl, fun a ha => ?_⟩
    replace hs := Step.call (L1 := [_, _]) hs hq3
    by_cases h0 : (readP bs).1 = 0
    · rw [if_pos h0] at hs
      have hobt := hok h0
      obtain ⟨ho1, ho2, ho3⟩ := hobt
      refine ⟨_, res_cell2 ha rfl rfl rfl (run_loadVar1 ty22 (hs.c0 rfl)) (run_loadVar1 ty25 (hs.c1 rfl)), ?_⟩
      have hl : decL bs = (readP bs).2 := by unfold decL; rw [he, if_pos h0]
      rw [he, hl]
      exact ⟨u, Lv, rfl, ho1, ho2, ho3, Step.dropR (Step.dropL (L1 := [_, _]) hs)⟩
    · rw [if_neg h0] at hs
      refine ⟨_, res_cell2 ha rfl rfl rfl (run_loadVar1 ty22 (hs.c0 rfl)) (run_loadVar1 ty25 (hs.c1 rfl)), ?_⟩
      have hl : decL bs = [] := by unfold decL; rw [he, if_neg h0]
      rw [he, hl]
      exact ⟨_, _, rfl, .nil _ _, Oks.nil, by simp, hs.clear⟩
end Go.Gx
