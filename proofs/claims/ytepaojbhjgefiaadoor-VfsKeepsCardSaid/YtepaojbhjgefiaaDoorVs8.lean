/- Files in memory: Write. -/
import Derived.Test.YtepaojbhjgefiaaDoorVs7
namespace Go.Gx
open Go.Proofs
set_option linter.unusedVariables false
set_option linter.unusedSimpArgs false
set_option maxRecDepth 100000
theorem splice_over (x b more : List UInt8) (a : Nat) (ha : a + b.length ≤ x.length) (hm : List Value) : splice (u8s x ++ hm) a (u8s b) = u8s (x.take a ++ b ++ x.drop (a + b.length)) ++ hm := by
  have e1 : (u8s x).length = x.length := by simp [u8s]
  have e2 : (u8s b).length = b.length := by simp [u8s]
  unfold splice
  rw [List.take_append_of_le_length (by omega), List.drop_append_of_le_length (by omega), e2]
  simp [u8s, List.map_take, List.map_drop, List.append_assoc]
theorem over_in {x b : List UInt8} {a : Nat} (h : a + b.length ≤ x.length) : overL x a b = x.take a ++ b ++ x.drop (a + b.length) := by
  unfold overL
  rw [show a + b.length - x.length = 0 by omega]
  simp
theorem over_out {x b : List UInt8} {a m : Nat} (h : x.length + m = a + b.length) : overL x a b = (x ++ List.replicate m 0).take a ++ b ++ (x ++ List.replicate m 0).drop (a + b.length) := by
  unfold overL
  rw [show a + b.length - x.length = m by omega]
theorem u8s_rep (x : List UInt8) (m : Nat) : u8s x ++ List.replicate m (Value.int .u8 0) = u8s (x ++ List.replicate m 0) := by simp [u8s]
section
variable {α : Type}
theorem perm_wr1 {a b c : α} {l r : List α} : (a :: b :: c :: (l ++ r)).Perm (l ++ (b :: a :: c :: r)) := by
  classical
  exact List.perm_iff_count.2 fun x => by
    simp only [List.count_append, List.count_cons, List.count_nil]
    omega
theorem perm_wr2 {a b c : α} {l r : List α} : (l ++ (b :: a :: c :: r)).Perm (b :: a :: c :: (l ++ r)) := by
  classical
  exact List.perm_iff_count.2 fun x => by
    simp only [List.count_append, List.count_cons, List.count_nil]
    omega
end
section
variable {bf : Nat} {s : VS} {L : List (Nat × Obj)} {w0 : World}
set_option maxHeartbeats 4000000 in
theorem write_spec (hR : VRep bf s L) (ok : s.Ok) (hw : Step (L.map (·.1)) L w0 w0) {h : Int} {vb : Value} {b : List UInt8} (hb0 : b.length ≤ 9223372036854775807) (hsb : ∀ {L' w}, Step (L.map (·.1)) L' w0 w → Sl w 1 vb b.length (u8s b)) : Calls Tryd.prog 11 #[.pointer (some ⟨bf, 0, none⟩), .int .i64 h, vb] w0 fun e w' => ∃ L', e = .returned (.int .i64 (s.write h b).1) ∧ VRep bf (s.write h b).2 L' ∧ Step (L.map (·.1)) L' w0 w' := by
  have hR0 := hR
  obtain ⟨mf, md, vh, Lh, Fs, Ds, Hs, o⟩ := hR
  have hs : Step (L.map (·.1)) L w0 w0 := hw
  have hobt := (hsb hs).form
  obtain ⟨ab, cb, rfl⟩ := hobt
  have hmay := fun {w} hw => may_spec (w0 := w) (h := h) (n := (b.length : Nat)) o ok hw ⟨by omega, by omega⟩
  by_cases hbad : s.may h b.length ≠ 0 ∨ b = []
  · rw [show s.write h b = (s.may h b.length, s) by unfold VS.write; rw [if_pos hbad]]
    have hobt : ∃ ez, s.may h b.length = ez := ⟨_, rfl⟩
    obtain ⟨ez, hez⟩ := hobt
    rw [hez] at hbad hmay ⊢
    by_cases he : ez = 0
    · have hb0 : b.length = 0 := by
        rcases hbad with h1 | h1
        · exact absurd he h1
        · rw [h1]; rfl
      refine calls (n := 89) Tryd.func11 rfl rfl rfl ?_
      repeat (first | refine CW.seq ?_ | refine CW.block ?_ | refine CW.skip ?_ | refine CW.label ?_ | refine CW.exit ?_ | refine CW.condT rfl ?_ | refine CW.condF rfl ?_)
      refine CW.reg ?_
      refine WL.val rfl (run_assign) ?_
      refine WL.nil ?_
      repeat (first | refine CW.seq ?_ | refine CW.block ?_ | refine CW.skip ?_ | refine CW.label ?_ | refine CW.exit ?_ | refine CW.condT rfl ?_ | refine CW.condF rfl ?_)
      refine CW.reg ?_
      refine WL.val rfl (run_move) ?_
      refine WL.val rfl (run_move) ?_
      refine WL.val rfl (run_move) ?_
      refine WL.val rfl (run_lenSl Tryd.underlying34 rfl) ?_
      refine WL.enter rfl (run_call en34 rfl rfl) (hmay hs.has) ?_
      rintro e w ⟨rfl, hq⟩
      refine ⟨_, rfl, ?_⟩
      replace hs := hs.callE hq
      refine WL.val rfl (run_assign) ?_
      refine WL.nil ?_
      repeat (first | refine CW.seq ?_ | refine CW.block ?_ | refine CW.skip ?_ | refine CW.label ?_ | refine CW.exit ?_ | refine CW.condT rfl ?_ | refine CW.condF rfl ?_)
      refine CW.reg ?_
      refine WL.val rfl (run_move) ?_
      refine WL.val rfl (run_bF (run_neq rfl rfl) (by exact fun h => h he)) ?_
      refine WL.val rfl (run_move) ?_
      first | (refine WL.yes rfl rfl rfl ?_; refine WL.val rfl (run_move) ?_) | refine WL.no rfl rfl rfl (.inl rfl) ?_ | refine WL.no rfl rfl rfl (.inr rfl) ?_
      first | (refine WL.yes rfl rfl rfl ?_; refine WL.val rfl (run_lenSl Tryd.underlying34 rfl) ?_) | refine WL.no rfl rfl rfl (.inl rfl) ?_ | refine WL.no rfl rfl rfl (.inr rfl) ?_
      refine WL.yes rfl rfl rfl ?_
      refine WL.val rfl (run_bT (run_eql rfl rfl) (by omega)) ?_
      first | refine WL.val rfl (run_pickT rfl) ?_ | refine WL.val rfl (run_pickF rfl) ?_
      refine WL.nil ?_
      repeat (first | refine CW.seq ?_ | refine CW.block ?_ | refine CW.skip ?_ | refine CW.label ?_ | refine CW.exit ?_)
      first | refine CW.condP rfl (fun h => ?_) (fun h => ?_) | refine CW.cond rfl (fun h => ?_) (fun h => ?_)
      · repeat (first | refine CW.seq ?_ | refine CW.block ?_ | refine CW.skip ?_ | refine CW.label ?_ | refine CW.exit ?_ | refine CW.condT rfl ?_ | refine CW.condF rfl ?_)
        refine CW.reg ?_
        refine WL.val rfl (run_move) ?_
        refine WL.val rfl (run_assign) ?_
        refine WL.nil ?_
        repeat (first | refine CW.seq ?_ | refine CW.block ?_ | refine CW.skip ?_ | refine CW.label ?_ | refine CW.exit ?_ | refine CW.condT rfl ?_ | refine CW.condF rfl ?_)
        refine CW.ret ?_
        refine fin_ret1 rfl ?_
        exact ⟨L, rfl, hR0, hs⟩
      · cases h
    · refine calls (n := 89) Tryd.func11 rfl rfl rfl ?_
      repeat (first | refine CW.seq ?_ | refine CW.block ?_ | refine CW.skip ?_ | refine CW.label ?_ | refine CW.exit ?_ | refine CW.condT rfl ?_ | refine CW.condF rfl ?_)
      refine CW.reg ?_
      refine WL.val rfl (run_assign) ?_
      refine WL.nil ?_
      repeat (first | refine CW.seq ?_ | refine CW.block ?_ | refine CW.skip ?_ | refine CW.label ?_ | refine CW.exit ?_ | refine CW.condT rfl ?_ | refine CW.condF rfl ?_)
      refine CW.reg ?_
      refine WL.val rfl (run_move) ?_
      refine WL.val rfl (run_move) ?_
      refine WL.val rfl (run_move) ?_
      refine WL.val rfl (run_lenSl Tryd.underlying34 rfl) ?_
      refine WL.enter rfl (run_call en34 rfl rfl) (hmay hs.has) ?_
      rintro e w ⟨rfl, hq⟩
      refine ⟨_, rfl, ?_⟩
      replace hs := hs.callE hq
      refine WL.val rfl (run_assign) ?_
      refine WL.nil ?_
      repeat (first | refine CW.seq ?_ | refine CW.block ?_ | refine CW.skip ?_ | refine CW.label ?_ | refine CW.exit ?_ | refine CW.condT rfl ?_ | refine CW.condF rfl ?_)
      refine CW.reg ?_
      refine WL.val rfl (run_move) ?_
      refine WL.val rfl (run_bT (run_neq rfl rfl) (by exact he)) ?_
      refine WL.val rfl (run_move) ?_
      first | (refine WL.yes rfl rfl rfl ?_; refine WL.val rfl (run_move) ?_) | refine WL.no rfl rfl rfl (.inl rfl) ?_ | refine WL.no rfl rfl rfl (.inr rfl) ?_
      first | (refine WL.yes rfl rfl rfl ?_; refine WL.val rfl (run_lenSl Tryd.underlying34 rfl) ?_) | refine WL.no rfl rfl rfl (.inl rfl) ?_ | refine WL.no rfl rfl rfl (.inr rfl) ?_
      first | (refine WL.yes rfl rfl rfl ?_; refine WL.val rfl (run_eql rfl rfl) ?_) | refine WL.no rfl rfl rfl (.inl rfl) ?_ | refine WL.no rfl rfl rfl (.inr rfl) ?_
      first | refine WL.val rfl (run_pickT rfl) ?_ | refine WL.val rfl (run_pickF rfl) ?_
      refine WL.nil ?_
      repeat (first | refine CW.seq ?_ | refine CW.block ?_ | refine CW.skip ?_ | refine CW.label ?_ | refine CW.exit ?_)
      first | refine CW.condP rfl (fun h => ?_) (fun h => ?_) | refine CW.cond rfl (fun h => ?_) (fun h => ?_)
      · repeat (first | refine CW.seq ?_ | refine CW.block ?_ | refine CW.skip ?_ | refine CW.label ?_ | refine CW.exit ?_ | refine CW.condT rfl ?_ | refine CW.condF rfl ?_)
        refine CW.reg ?_
        refine WL.val rfl (run_move) ?_
        refine WL.val rfl (run_assign) ?_
        refine WL.nil ?_
        repeat (first | refine CW.seq ?_ | refine CW.block ?_ | refine CW.skip ?_ | refine CW.label ?_ | refine CW.exit ?_ | refine CW.condT rfl ?_ | refine CW.condF rfl ?_)
        refine CW.ret ?_
        refine fin_ret1 rfl ?_
        exact ⟨L, rfl, hR0, hs⟩
      · cases h
  · rcases o.his h with ⟨hi, _⟩ | ⟨k, hb, rfl, hk, hi⟩
    · exfalso
      apply hbad
      unfold VS.may
      rw [hi]
      exact .inl (by simp)
    · have hobt := o.file hk
      obtain ⟨r, hr, hfb⟩ := hobt
      have hobt := o.bnd ok hk hr
      obtain ⟨b1, b2, b3⟩ := hobt
      have hl := o.len_ hr
      have hdat := o.data_ hr
      have hpth := o.pth_ hr
      have hlt := (List.getElem?_eq_some_iff.1 hk).1
      have hfe : s.from_ hb.i hb.pl hb.mo = if hb.mo = 3 then r.x.length else hb.pl := by unfold VS.from_; rw [hl]
      have hfrom := fun {w} hw => from_spec (w0 := w) o hw hk hr hfb
      rw [← hfe] at hfrom
      have hwr : s.write (k : Int) b = (0, { s with F := s.F.set hb.i (r.p, overL r.x (s.from_ hb.i hb.pl hb.mo) b), H := s.H.set k (some (hb.i, s.from_ hb.i hb.pl hb.mo + b.length, hb.mo)), by_ := s.by_ + (s.from_ hb.i hb.pl hb.mo + b.length - r.x.length) }) := by
        unfold VS.write
        rw [if_neg hbad, hi]
        simp only [hdat, hpth, hl, Int.toNat_natCast]
      rw [hwr]
      have hm0 : s.may (k : Int) b.length = 0 := Classical.byContradiction fun h => hbad (.inl h)
      rw [hm0] at hmay
      have hbn : 0 < b.length := List.length_pos_iff.2 fun h => hbad (.inr h)
      have hobt : ∃ fr, s.from_ hb.i hb.pl hb.mo = fr := ⟨_, rfl⟩
      obtain ⟨fr, hfr⟩ := hobt
      have hmv : fr + b.length ≤ 1048576 ∧ (s.by_ : Int) + max 0 ((fr : Int) + b.length - r.x.length) ≤ s.qb := by
        have h1 := hm0
        unfold VS.may at h1
        rw [hi] at h1
        simp only [hl, hfr] at h1
        split at h1
        · exact absurd h1 (by decide)
        · split at h1
          · omega
          · split at h1
            · omega
            · split at h1
              · exact absurd h1 (by decide)
              · split at h1
                · exact absurd h1 (by decide)
                · omega
      rw [hfr] at hfrom ⊢
      have hqb := ok.qb
      obtain ⟨bl, cl, hvl⟩ : ∃ b c, vh = .slice (some ⟨b, 0, none⟩) Hs.length c := by
        have hobt := o.vh.some1 (by omega)
        obtain ⟨b, c, more, h1, _⟩ := hobt
        exact ⟨b, c, h1⟩
      have hcell : ∀ {w : World}, (∀ p ∈ L, w.heap[p.1]? = some p.2) → w.cell? ⟨bl, 0 + k * 1, none⟩ = some (.pointer (some ⟨hb.b, 0, none⟩)) := fun hw => by
        have h1 := o.hsl hw
        rw [hvl] at h1
        have hobt := h1.based (by omega)
        obtain ⟨b', o', c', e, hat⟩ := hobt
        cases e
        rw [Nat.mul_one]
        exact hat.cell (by rw [List.getElem?_map, hk]; rfl)
      have hfs := fun {w} hw => (o.at (w := w) hw).cell (j := 2) (v := .slice (some ⟨bl, 0, none⟩) Hs.length cl) (by rw [← hvl]; rfl)
      have hov := o.fs r (List.mem_of_getElem? hr)
      have hobt := hov.form
      obtain ⟨av, cv, hvf⟩ := hobt
      have hperm := o.openFH hk hr
      have hset := fun {v' x' Lv'} hv by' => o.setFH (v' := v') (x' := x') (Lv' := Lv') hk hr hfb (fr + b.length) by' hv
      have hc1 : Cells1 (u8s b) := Cells1.u8s b
      have hobt : ∃ S, L.map (·.1) = S := ⟨_, rfl⟩
      obtain ⟨S, hS⟩ := hobt
      rw [hS] at hs hsb ⊢
      have hobt : ∃ R, rest2 mf md Lh Fs Ds Hs k hb.i = R := ⟨_, rfl⟩
      obtain ⟨R, hRe⟩ := hobt
      rw [hRe] at hperm hset
      rw [hfb] at hperm hset
      rw [hvf] at hov hperm
      by_cases hgrow : r.x.length < fr + b.length
      · have hobt : ∃ m, r.x.length + m = fr + b.length := ⟨fr + b.length - r.x.length, by omega⟩
        obtain ⟨m, hm⟩ := hobt
        have e1 : ((fr + b.length : Nat) : Int) - (r.x.length : Nat) = (m : Nat) := by omega
        have e2 : fr + b.length - r.x.length = m := by omega
        rw [e2]
        refine calls (n := 89) Tryd.func11 rfl rfl rfl ?_
        repeat (first | refine CW.seq ?_ | refine CW.block ?_ | refine CW.skip ?_ | refine CW.label ?_ | refine CW.exit ?_ | refine CW.condT rfl ?_ | refine CW.condF rfl ?_)
        refine CW.reg ?_
        refine WL.val rfl (run_assign) ?_
        refine WL.nil ?_
        repeat (first | refine CW.seq ?_ | refine CW.block ?_ | refine CW.skip ?_ | refine CW.label ?_ | refine CW.exit ?_ | refine CW.condT rfl ?_ | refine CW.condF rfl ?_)
        refine CW.reg ?_
        refine WL.val rfl (run_move) ?_
        refine WL.val rfl (run_move) ?_
        refine WL.val rfl (run_move) ?_
        refine WL.val rfl (run_lenSl Tryd.underlying34 rfl) ?_
        refine WL.enter rfl (run_call en34 rfl rfl) (hmay hs.has) ?_
        rintro e w ⟨rfl, hq⟩
        refine ⟨_, rfl, ?_⟩
        replace hs := hs.callE hq
        refine WL.val rfl (run_assign) ?_
        refine WL.nil ?_
        repeat (first | refine CW.seq ?_ | refine CW.block ?_ | refine CW.skip ?_ | refine CW.label ?_ | refine CW.exit ?_ | refine CW.condT rfl ?_ | refine CW.condF rfl ?_)
        refine CW.reg ?_
        refine WL.val rfl (run_move) ?_
        refine WL.val rfl (run_bF (run_neq rfl rfl) (by exact fun h => h rfl)) ?_
        refine WL.val rfl (run_move) ?_
        first | (refine WL.yes rfl rfl rfl ?_; refine WL.val rfl (run_move) ?_) | refine WL.no rfl rfl rfl (.inl rfl) ?_ | refine WL.no rfl rfl rfl (.inr rfl) ?_
        first | (refine WL.yes rfl rfl rfl ?_; refine WL.val rfl (run_lenSl Tryd.underlying34 rfl) ?_) | refine WL.no rfl rfl rfl (.inl rfl) ?_ | refine WL.no rfl rfl rfl (.inr rfl) ?_
        refine WL.yes rfl rfl rfl ?_
        refine WL.val rfl (run_bF (run_eql rfl rfl) (by omega)) ?_
        first | refine WL.val rfl (run_pickT rfl) ?_ | refine WL.val rfl (run_pickF rfl) ?_
        refine WL.nil ?_
        repeat (first | refine CW.seq ?_ | refine CW.block ?_ | refine CW.skip ?_ | refine CW.label ?_ | refine CW.exit ?_)
        first | refine CW.condP rfl (fun h => ?_) (fun h => ?_) | refine CW.cond rfl (fun h => ?_) (fun h => ?_)
        · cases h
        repeat (first | refine CW.seq ?_ | refine CW.block ?_ | refine CW.skip ?_ | refine CW.label ?_ | refine CW.exit ?_ | refine CW.condT rfl ?_ | refine CW.condF rfl ?_)
        refine CW.reg ?_
        refine WL.val rfl (run_move) ?_
        refine WL.val rfl (run_nilCheck rfl) ?_
        refine WL.val rfl (run_field (o' := 2) Tryd.underlying81 rfl ty79 rfl rfl rfl) ?_
        refine WL.val rfl (run_load1 ty79 rfl ((hfs hs.has))) ?_
        refine WL.val rfl (run_move) ?_
        first | refine WL.val rfl (run_ixSlN Tryd.underlying79 ty91 rfl rfl (by omega)) ?_ | refine WL.val rfl (run_ixSl Tryd.underlying79 ty91 rfl rfl (by omega)) ?_
        refine WL.val rfl (run_load1 ty91 rfl ((hcell hs.has))) ?_
        refine WL.val rfl (run_assign) ?_
        refine WL.nil ?_
        repeat (first | refine CW.seq ?_ | refine CW.block ?_ | refine CW.skip ?_ | refine CW.label ?_ | refine CW.exit ?_ | refine CW.condT rfl ?_ | refine CW.condF rfl ?_)
        refine CW.reg ?_
        refine WL.val rfl (run_move) ?_
        refine WL.enter rfl (run_call en35 rfl rfl) (hfrom hs.has) ?_
        rintro e w ⟨rfl, hq⟩
        refine ⟨_, rfl, ?_⟩
        replace hs := hs.callE hq
        refine WL.val rfl (run_assign) ?_
        refine WL.nil ?_
        have h5 := hs.perm hperm
        clear hs
        have hs := h5
        repeat (first | refine CW.seq ?_ | refine CW.block ?_ | refine CW.skip ?_ | refine CW.label ?_ | refine CW.exit ?_ | refine CW.condT rfl ?_ | refine CW.condF rfl ?_)
        refine CW.reg ?_
        refine WL.val rfl (run_move) ?_
        refine WL.val rfl (run_move) ?_
        refine WL.val rfl (run_lenSl Tryd.underlying34 rfl) ?_
        refine WL.val rfl (run_add (c := ((fr + b.length : Nat) : Int)) rfl rfl (by omega) (by omega)) ?_
        refine WL.val rfl (run_move) ?_
        refine WL.val rfl (run_nilCheck rfl) ?_
        refine WL.val rfl (run_field (o' := 0) Tryd.underlying93 rfl ty86 rfl rfl rfl) ?_
        refine WL.val rfl (run_load1 ty86 rfl (hs.c0 (v := .pointer (some ⟨r.b, 0, none⟩)) rfl)) ?_
        refine WL.val rfl (run_nilCheck rfl) ?_
        refine WL.val rfl (run_field (o' := 1) Tryd.underlying89 rfl ty34 rfl rfl rfl) ?_
        refine WL.val rfl (run_load1 ty34 rfl (hs.c1 (v := .slice av r.x.length cv) rfl)) ?_
        refine WL.val rfl (run_lenSl Tryd.underlying34 rfl) ?_
        refine WL.val rfl (run_sub (c := ((fr + b.length : Nat) : Int) - (r.x.length : Nat)) rfl rfl (by omega) (by omega)) ?_
        refine WL.val rfl (run_assign) ?_
        refine WL.nil ?_
        simp only [e1]
        repeat (first | refine CW.seq ?_ | refine CW.block ?_ | refine CW.skip ?_ | refine CW.label ?_ | refine CW.exit ?_ | refine CW.condT rfl ?_ | refine CW.condF rfl ?_)
        refine CW.reg ?_
        refine WL.val rfl (run_move) ?_
        refine WL.val rfl (run_bT (run_gtr rfl rfl) (by omega)) ?_
        refine WL.nil ?_
        repeat (first | refine CW.seq ?_ | refine CW.block ?_ | refine CW.skip ?_ | refine CW.label ?_ | refine CW.exit ?_)
        first | refine CW.condP rfl (fun h => ?_) (fun h => ?_) | refine CW.cond rfl (fun h => ?_) (fun h => ?_)
        · repeat (first | refine CW.seq ?_ | refine CW.block ?_ | refine CW.skip ?_ | refine CW.label ?_ | refine CW.exit ?_ | refine CW.condT rfl ?_ | refine CW.condF rfl ?_)
          refine CW.any (A := fun w => w.heap[hb.b]? = some (blk 93 [.pointer (some ⟨r.b, 0, none⟩), .int .i64 (hb.pl : Nat), .int .i64 (hb.mo : Nat)])) (C := fun w => w.heap[r.b]? = some (blk 89 [str r.p, .slice av r.x.length cv])) 12 16 mixedP rfl ?_
          replace hs := hs.drew
          refine AL.valA 0 rfl (by kernel_rfl) rfl (fun w hs => run_move) ?_
          refine AL.valA 1 rfl (by kernel_rfl) rfl (fun w hs => run_nilCheck rfl) ?_
          refine AL.valA 2 rfl (by kernel_rfl) rfl (fun w hs => run_field (o' := 0) Tryd.underlying93 rfl ty86 rfl rfl rfl) ?_
          refine AL.valA 3 rfl (by kernel_rfl) rfl (fun w hs => run_load1 ty86 rfl ((by rw [cell_blk hs]; rfl))) ?_
          refine AL.valA 4 rfl (by kernel_rfl) rfl (fun w hs => run_move) ?_
          refine AL.valA 5 rfl (by kernel_rfl) rfl (fun w hs => run_nilCheck rfl) ?_
          refine AL.valA 6 rfl (by kernel_rfl) rfl (fun w hs => run_field (o' := 0) Tryd.underlying93 rfl ty86 rfl rfl rfl) ?_
          refine AL.valA 7 rfl (by kernel_rfl) rfl (fun w hs => run_load1 ty86 rfl ((by rw [cell_blk hs]; rfl))) ?_
          refine AL.valA 8 rfl (by kernel_rfl) rfl (fun w hs => run_nilCheck rfl) ?_
          refine AL.valA 9 rfl (by kernel_rfl) rfl (fun w hs => run_field (o' := 1) Tryd.underlying89 rfl ty34 rfl rfl rfl) ?_
          refine AL.val 10 rfl (by kernel_rfl) rfl (fun w hs => run_load1 ty34 rfl ((by rw [cell_blk hs]; rfl))) ?_
          refine AL.val 11 rfl (by kernel_rfl) rfl (fun w hs => run_move) ?_
          refine AL.one 12 (by kernel_rfl) rfl (by first | exact hs.hd | exact hs.tail.hd) (by first | exact hs.tail.hd | exact hs.hd) ?_
          refine WL.appendZO Tryd.underlying34 Tryd.underlying3 ty5 rfl rfl (by decide) rfl rfl (hov) (hs.perm perm_wr1) (by omega) (by omega) rfl (fun v60 Lv60 w hv60 hs => ?_)
          replace hs := hs.perm perm_wr2
          refine WL.nil ?_
          refine ⟨rfl, ?_⟩
          refine AL.relax (by kernel_rfl) ?_
          refine AL.valA 13 rfl (by kernel_rfl) rfl (fun w hs => run_nilCheck rfl) ?_
          refine AL.valA 14 rfl (by kernel_rfl) rfl (fun w hs => run_field (o' := 1) Tryd.underlying89 rfl ty34 rfl rfl rfl) ?_
          refine AL.one 15 (by kernel_rfl) rfl (by first | exact hs.hd | exact hs.tail.hd) (trivial) ?_
          first | refine WL.store1 ty34 rfl rfl (hv60.one) hs (by first | (simp; done) | omega | (simp only [List.length_append, List.length_replicate, List.length_cons, List.length_nil, List.length_set]; omega) | (simp [Ent.cells, u8s]; done) | exact Nat.le_of_ble_eq_true rfl) (fun w hs => ?_) | refine WL.store1_1 ty34 rfl rfl (hv60.one) hs (by first | (simp; done) | omega | (simp only [List.length_append, List.length_replicate, List.length_cons, List.length_nil, List.length_set]; omega) | (simp [Ent.cells, u8s]; done) | exact Nat.le_of_ble_eq_true rfl) (fun w hs => ?_) | refine WL.store1_2 ty34 rfl rfl (hv60.one) hs (by first | (simp; done) | omega | (simp only [List.length_append, List.length_replicate, List.length_cons, List.length_nil, List.length_set]; omega) | (simp [Ent.cells, u8s]; done) | exact Nat.le_of_ble_eq_true rfl) (fun w hs => ?_) | refine WL.store1_3 ty34 rfl rfl (hv60.one) hs (by first | (simp; done) | omega | (simp only [List.length_append, List.length_replicate, List.length_cons, List.length_nil, List.length_set]; omega) | (simp [Ent.cells, u8s]; done) | exact Nat.le_of_ble_eq_true rfl) (fun w hs => ?_) | refine WL.store1_4 ty34 rfl rfl (hv60.one) hs (by first | (simp; done) | omega | (simp only [List.length_append, List.length_replicate, List.length_cons, List.length_nil, List.length_set]; omega) | (simp [Ent.cells, u8s]; done) | exact Nat.le_of_ble_eq_true rfl) (fun w hs => ?_) | refine WL.store1 ty34 rfl rfl (hv60.one) hs (by first | (simp; done) | omega | (simp only [List.length_append, List.length_replicate, List.length_cons, List.length_nil, List.length_set]; omega) | (simp [Ent.cells, u8s]; done) | exact Nat.le_of_ble_eq_true rfl) (fun w hs => ?_)
          refine WL.nil ?_
          refine ⟨rfl, ?_⟩
          refine AL.end (by kernel_rfl) (by first | exact hs.hd | exact hs.tail.hd) (trivial) ?_
          replace hs := hs.swap
          repeat (first | refine CW.seq ?_ | refine CW.block ?_ | refine CW.skip ?_ | refine CW.label ?_ | refine CW.exit ?_ | refine CW.condT rfl ?_ | refine CW.condF rfl ?_)
          refine CW.reg ?_
          refine WL.val rfl (run_move) ?_
          refine WL.val rfl (run_nilCheck rfl) ?_
          refine WL.val rfl (run_field (o' := 6) Tryd.underlying81 rfl ty3 rfl rfl rfl) ?_
          refine WL.val rfl (run_load1 ty3 rfl (hs.c2 (v := .int .i64 (s.by_ : Nat)) rfl)) ?_
          refine WL.val rfl (run_move) ?_
          refine WL.val rfl (run_add (c := ((s.by_ + m : Nat) : Int)) rfl rfl (by omega) (by omega)) ?_
          refine WL.val rfl (run_nilCheck rfl) ?_
          refine WL.val rfl (run_field (o' := 6) Tryd.underlying81 rfl ty3 rfl rfl rfl) ?_
          first | refine WL.store1 ty3 rfl rfl (rfl) hs (by first | (simp; done) | omega | (simp only [List.length_append, List.length_replicate, List.length_cons, List.length_nil, List.length_set]; omega) | (simp [Ent.cells, u8s]; done) | exact Nat.le_of_ble_eq_true rfl) (fun w hs => ?_) | refine WL.store1_1 ty3 rfl rfl (rfl) hs (by first | (simp; done) | omega | (simp only [List.length_append, List.length_replicate, List.length_cons, List.length_nil, List.length_set]; omega) | (simp [Ent.cells, u8s]; done) | exact Nat.le_of_ble_eq_true rfl) (fun w hs => ?_) | refine WL.store1_2 ty3 rfl rfl (rfl) hs (by first | (simp; done) | omega | (simp only [List.length_append, List.length_replicate, List.length_cons, List.length_nil, List.length_set]; omega) | (simp [Ent.cells, u8s]; done) | exact Nat.le_of_ble_eq_true rfl) (fun w hs => ?_) | refine WL.store1_3 ty3 rfl rfl (rfl) hs (by first | (simp; done) | omega | (simp only [List.length_append, List.length_replicate, List.length_cons, List.length_nil, List.length_set]; omega) | (simp [Ent.cells, u8s]; done) | exact Nat.le_of_ble_eq_true rfl) (fun w hs => ?_) | refine WL.store1_4 ty3 rfl rfl (rfl) hs (by first | (simp; done) | omega | (simp only [List.length_append, List.length_replicate, List.length_cons, List.length_nil, List.length_set]; omega) | (simp [Ent.cells, u8s]; done) | exact Nat.le_of_ble_eq_true rfl) (fun w hs => ?_) | refine WL.store1 ty3 rfl rfl (rfl) hs (by first | (simp; done) | omega | (simp only [List.length_append, List.length_replicate, List.length_cons, List.length_nil, List.length_set]; omega) | (simp [Ent.cells, u8s]; done) | exact Nat.le_of_ble_eq_true rfl) (fun w hs => ?_)
          refine WL.nil ?_
          have hobt : ∃ x1, r.x ++ List.replicate m 0 = x1 := ⟨_, rfl⟩
          obtain ⟨x1, hx1⟩ := hobt
          have hx1l : x1.length = r.x.length + m := by rw [← hx1]; simp
          have hv1 : OwnSl 5 1 v60 x1.length (u8s x1) Lv60 := by
            rw [hx1l, ← hx1, ← u8s_rep]
            exact hv60
          have hov1 : overL r.x fr b = x1.take fr ++ b ++ x1.drop (fr + b.length) := by rw [← hx1]; exact over_out hm
          have hobt : ∃ by1, s.by_ + m = by1 := ⟨_, rfl⟩
          obtain ⟨by1, hby⟩ := hobt
          replace hs : Step S ((hb.b, blk 93 [.pointer (some ⟨r.b, 0, none⟩), .int .i64 (hb.pl : Nat), .int .i64 (hb.mo : Nat)]) :: (r.b, blk 89 [str r.p, v60]) :: (bf, blk 81 (fsC mf md vh { s with by_ := by1 })) :: (Lv60 ++ R)) w0 w := by rw [← hby]; exact hs
          have hsm := hv1.some1 (by omega)
          obtain ⟨bd, cd, more, hq2, hqL, hcd⟩ := hsm
          subst hq2
          subst hqL
          rw [List.length_append] at hcd
          have hlm : (u8s x1 ++ more).length = x1.length + more.length := by simp [u8s]
          have hux : (u8s x1).length = x1.length := by simp [u8s]
          repeat (first | refine CW.seq ?_ | refine CW.block ?_ | refine CW.skip ?_ | refine CW.label ?_ | refine CW.exit ?_ | refine CW.condT rfl ?_ | refine CW.condF rfl ?_)
          refine CW.reg ?_
          refine WL.val rfl (run_move) ?_
          refine WL.val rfl (run_nilCheck rfl) ?_
          refine WL.val rfl (run_field (o' := 0) Tryd.underlying93 rfl ty86 rfl rfl rfl) ?_
          refine WL.val rfl (run_load1 ty86 rfl (hs.c0 (v := .pointer (some ⟨r.b, 0, none⟩)) rfl)) ?_
          refine WL.val rfl (run_nilCheck rfl) ?_
          refine WL.val rfl (run_field (o' := 1) Tryd.underlying89 rfl ty34 rfl rfl rfl) ?_
          refine WL.val rfl (run_load1 ty34 rfl (hs.c1 (v := .slice (some ⟨bd, 0, none⟩) x1.length cd) rfl)) ?_
          refine WL.val rfl (run_move) ?_
          refine WL.val rfl (run_sliceSlP  Tryd.underlying34 ty5 rfl rfl rfl rfl (by simp) (by omega) (by omega) (by omega) (by omega)) ?_
          refine WL.val rfl (run_move) ?_
          refine WL.copy Tryd.underlying34 ty5 rfl rfl (hs.front [_, _, _]) (hsb hs) (hc1) (by first | omega | exact Nat.le_of_ble_eq_true rfl | (simp [Ent.cells, u8s]; done)) (fun k hk => by cases hk; rfl) (fun w hs => ⟨fun k hk => ?_, fun h => by cases h⟩)
          cases hk
          refine WL.nil ?_
          replace hs : Step S ((bd, blk 5 (splice (u8s x1 ++ more) (0 + fr * 1) ((u8s b).take (min b.length (x1.length - fr) * 1)))) :: (hb.b, blk 93 [.pointer (some ⟨r.b, 0, none⟩), .int .i64 (hb.pl : Nat), .int .i64 (hb.mo : Nat)]) :: (r.b, blk 89 [str r.p, .slice (some ⟨bd, 0, none⟩) x1.length cd]) :: (bf, blk 81 (fsC mf md vh { s with by_ := by1 })) :: R) w0 w := hs
          rw [show (u8s b).take (min b.length (x1.length - fr) * 1) = u8s b by rw [List.take_of_length_le]; simp [u8s]; omega, Nat.zero_add, Nat.mul_one, splice_over x1 b [] fr (by omega)] at hs
          have hs2 := hs.perm (L' := (hb.b, blk 93 [.pointer (some ⟨r.b, 0, none⟩), .int .i64 (hb.pl : Nat), .int .i64 (hb.mo : Nat)]) :: (r.b, blk 89 [str r.p, .slice (some ⟨bd, 0, none⟩) x1.length cd]) :: (bf, blk 81 (fsC mf md vh { s with by_ := by1 })) :: ([(bd, blk 5 (u8s (x1.take fr ++ b ++ x1.drop (fr + b.length)) ++ more))] ++ R)) ((List.perm_middle (l₁ := [_, _, _])).symm)
          clear hs
          have hs := hs2
          repeat (first | refine CW.seq ?_ | refine CW.block ?_ | refine CW.skip ?_ | refine CW.label ?_ | refine CW.exit ?_ | refine CW.condT rfl ?_ | refine CW.condF rfl ?_)
          refine CW.reg ?_
          refine WL.val rfl (run_move) ?_
          refine WL.val rfl (run_move) ?_
          refine WL.val rfl (run_move) ?_
          refine WL.val rfl (run_lenSl Tryd.underlying34 rfl) ?_
          refine WL.val rfl (run_add (c := ((fr + b.length : Nat) : Int)) rfl rfl (by omega) (by omega)) ?_
          refine WL.val rfl (run_nilCheck rfl) ?_
          refine WL.val rfl (run_field (o' := 1) Tryd.underlying93 rfl ty3 rfl rfl rfl) ?_
          first | refine WL.store1 ty3 rfl rfl (rfl) hs (by first | (simp; done) | omega | (simp only [List.length_append, List.length_replicate, List.length_cons, List.length_nil, List.length_set]; omega) | (simp [Ent.cells, u8s]; done) | exact Nat.le_of_ble_eq_true rfl) (fun w hs => ?_) | refine WL.store1_1 ty3 rfl rfl (rfl) hs (by first | (simp; done) | omega | (simp only [List.length_append, List.length_replicate, List.length_cons, List.length_nil, List.length_set]; omega) | (simp [Ent.cells, u8s]; done) | exact Nat.le_of_ble_eq_true rfl) (fun w hs => ?_) | refine WL.store1_2 ty3 rfl rfl (rfl) hs (by first | (simp; done) | omega | (simp only [List.length_append, List.length_replicate, List.length_cons, List.length_nil, List.length_set]; omega) | (simp [Ent.cells, u8s]; done) | exact Nat.le_of_ble_eq_true rfl) (fun w hs => ?_) | refine WL.store1_3 ty3 rfl rfl (rfl) hs (by first | (simp; done) | omega | (simp only [List.length_append, List.length_replicate, List.length_cons, List.length_nil, List.length_set]; omega) | (simp [Ent.cells, u8s]; done) | exact Nat.le_of_ble_eq_true rfl) (fun w hs => ?_) | refine WL.store1_4 ty3 rfl rfl (rfl) hs (by first | (simp; done) | omega | (simp only [List.length_append, List.length_replicate, List.length_cons, List.length_nil, List.length_set]; omega) | (simp [Ent.cells, u8s]; done) | exact Nat.le_of_ble_eq_true rfl) (fun w hs => ?_) | refine WL.store1 ty3 rfl rfl (rfl) hs (by first | (simp; done) | omega | (simp only [List.length_append, List.length_replicate, List.length_cons, List.length_nil, List.length_set]; omega) | (simp [Ent.cells, u8s]; done) | exact Nat.le_of_ble_eq_true rfl) (fun w hs => ?_)
          refine WL.nil ?_
          repeat (first | refine CW.seq ?_ | refine CW.block ?_ | refine CW.skip ?_ | refine CW.label ?_ | refine CW.exit ?_ | refine CW.condT rfl ?_ | refine CW.condF rfl ?_)
          refine CW.reg ?_
          refine WL.val rfl (run_assign) ?_
          refine WL.nil ?_
          repeat (first | refine CW.seq ?_ | refine CW.block ?_ | refine CW.skip ?_ | refine CW.label ?_ | refine CW.exit ?_ | refine CW.condT rfl ?_ | refine CW.condF rfl ?_)
          refine CW.ret ?_
          refine fin_ret1 rfl ?_
          have hxl : (x1.take fr ++ b ++ x1.drop (fr + b.length)).length = x1.length := by simp; omega
          have hown : OwnSl 5 1 (.slice (some ⟨bd, 0, none⟩) x1.length cd) (x1.take fr ++ b ++ x1.drop (fr + b.length)).length (u8s (x1.take fr ++ b ++ x1.drop (fr + b.length))) [(bd, blk 5 (u8s (x1.take fr ++ b ++ x1.drop (fr + b.length)) ++ more))] := by
            refine ⟨by simp [u8s], .inr ⟨bd, cd, more, by rw [hxl], rfl, ?_⟩⟩
            rw [List.length_append, ← hcd, hux]
            simp only [u8s, List.length_map, hxl]
          have hobt := hset hown by1
          obtain ⟨L', hL', hp⟩ := hobt
          exact ⟨L', rfl, by rw [hby, hov1]; exact hL', hs.perm hp⟩
        · cases h
      · have e2 : fr + b.length - r.x.length = 0 := by omega
        rw [e2]
        refine calls (n := 89) Tryd.func11 rfl rfl rfl ?_
        repeat (first | refine CW.seq ?_ | refine CW.block ?_ | refine CW.skip ?_ | refine CW.label ?_ | refine CW.exit ?_ | refine CW.condT rfl ?_ | refine CW.condF rfl ?_)
        refine CW.reg ?_
        refine WL.val rfl (run_assign) ?_
        refine WL.nil ?_
        repeat (first | refine CW.seq ?_ | refine CW.block ?_ | refine CW.skip ?_ | refine CW.label ?_ | refine CW.exit ?_ | refine CW.condT rfl ?_ | refine CW.condF rfl ?_)
        refine CW.reg ?_
        refine WL.val rfl (run_move) ?_
        refine WL.val rfl (run_move) ?_
        refine WL.val rfl (run_move) ?_
        refine WL.val rfl (run_lenSl Tryd.underlying34 rfl) ?_
        refine WL.enter rfl (run_call en34 rfl rfl) (hmay hs.has) ?_
        rintro e w ⟨rfl, hq⟩
        refine ⟨_, rfl, ?_⟩
        replace hs := hs.callE hq
        refine WL.val rfl (run_assign) ?_
        refine WL.nil ?_
        repeat (first | refine CW.seq ?_ | refine CW.block ?_ | refine CW.skip ?_ | refine CW.label ?_ | refine CW.exit ?_ | refine CW.condT rfl ?_ | refine CW.condF rfl ?_)
        refine CW.reg ?_
        refine WL.val rfl (run_move) ?_
        refine WL.val rfl (run_bF (run_neq rfl rfl) (by exact fun h => h rfl)) ?_
        refine WL.val rfl (run_move) ?_
        first | (refine WL.yes rfl rfl rfl ?_; refine WL.val rfl (run_move) ?_) | refine WL.no rfl rfl rfl (.inl rfl) ?_ | refine WL.no rfl rfl rfl (.inr rfl) ?_
        first | (refine WL.yes rfl rfl rfl ?_; refine WL.val rfl (run_lenSl Tryd.underlying34 rfl) ?_) | refine WL.no rfl rfl rfl (.inl rfl) ?_ | refine WL.no rfl rfl rfl (.inr rfl) ?_
        refine WL.yes rfl rfl rfl ?_
        refine WL.val rfl (run_bF (run_eql rfl rfl) (by omega)) ?_
        first | refine WL.val rfl (run_pickT rfl) ?_ | refine WL.val rfl (run_pickF rfl) ?_
        refine WL.nil ?_
        repeat (first | refine CW.seq ?_ | refine CW.block ?_ | refine CW.skip ?_ | refine CW.label ?_ | refine CW.exit ?_)
        first | refine CW.condP rfl (fun h => ?_) (fun h => ?_) | refine CW.cond rfl (fun h => ?_) (fun h => ?_)
        · cases h
        repeat (first | refine CW.seq ?_ | refine CW.block ?_ | refine CW.skip ?_ | refine CW.label ?_ | refine CW.exit ?_ | refine CW.condT rfl ?_ | refine CW.condF rfl ?_)
        refine CW.reg ?_
        refine WL.val rfl (run_move) ?_
        refine WL.val rfl (run_nilCheck rfl) ?_
        refine WL.val rfl (run_field (o' := 2) Tryd.underlying81 rfl ty79 rfl rfl rfl) ?_
        refine WL.val rfl (run_load1 ty79 rfl ((hfs hs.has))) ?_
        refine WL.val rfl (run_move) ?_
        first | refine WL.val rfl (run_ixSlN Tryd.underlying79 ty91 rfl rfl (by omega)) ?_ | refine WL.val rfl (run_ixSl Tryd.underlying79 ty91 rfl rfl (by omega)) ?_
        refine WL.val rfl (run_load1 ty91 rfl ((hcell hs.has))) ?_
        refine WL.val rfl (run_assign) ?_
        refine WL.nil ?_
        repeat (first | refine CW.seq ?_ | refine CW.block ?_ | refine CW.skip ?_ | refine CW.label ?_ | refine CW.exit ?_ | refine CW.condT rfl ?_ | refine CW.condF rfl ?_)
        refine CW.reg ?_
        refine WL.val rfl (run_move) ?_
        refine WL.enter rfl (run_call en35 rfl rfl) (hfrom hs.has) ?_
        rintro e w ⟨rfl, hq⟩
        refine ⟨_, rfl, ?_⟩
        replace hs := hs.callE hq
        refine WL.val rfl (run_assign) ?_
        refine WL.nil ?_
        have h5 := hs.perm hperm
        clear hs
        have hs := h5
        repeat (first | refine CW.seq ?_ | refine CW.block ?_ | refine CW.skip ?_ | refine CW.label ?_ | refine CW.exit ?_ | refine CW.condT rfl ?_ | refine CW.condF rfl ?_)
        refine CW.reg ?_
        refine WL.val rfl (run_move) ?_
        refine WL.val rfl (run_move) ?_
        refine WL.val rfl (run_lenSl Tryd.underlying34 rfl) ?_
        refine WL.val rfl (run_add (c := ((fr + b.length : Nat) : Int)) rfl rfl (by omega) (by omega)) ?_
        refine WL.val rfl (run_move) ?_
        refine WL.val rfl (run_nilCheck rfl) ?_
        refine WL.val rfl (run_field (o' := 0) Tryd.underlying93 rfl ty86 rfl rfl rfl) ?_
        refine WL.val rfl (run_load1 ty86 rfl (hs.c0 (v := .pointer (some ⟨r.b, 0, none⟩)) rfl)) ?_
        refine WL.val rfl (run_nilCheck rfl) ?_
        refine WL.val rfl (run_field (o' := 1) Tryd.underlying89 rfl ty34 rfl rfl rfl) ?_
        refine WL.val rfl (run_load1 ty34 rfl (hs.c1 (v := .slice av r.x.length cv) rfl)) ?_
        refine WL.val rfl (run_lenSl Tryd.underlying34 rfl) ?_
        refine WL.val rfl (run_sub (c := ((fr + b.length : Nat) : Int) - (r.x.length : Nat)) rfl rfl (by omega) (by omega)) ?_
        refine WL.val rfl (run_assign) ?_
        refine WL.nil ?_
        repeat (first | refine CW.seq ?_ | refine CW.block ?_ | refine CW.skip ?_ | refine CW.label ?_ | refine CW.exit ?_ | refine CW.condT rfl ?_ | refine CW.condF rfl ?_)
        refine CW.reg ?_
        refine WL.val rfl (run_move) ?_
        refine WL.val rfl (run_bF (run_gtr rfl rfl) (by omega)) ?_
        refine WL.nil ?_
        repeat (first | refine CW.seq ?_ | refine CW.block ?_ | refine CW.skip ?_ | refine CW.label ?_ | refine CW.exit ?_)
        first | refine CW.condP rfl (fun h => ?_) (fun h => ?_) | refine CW.cond rfl (fun h => ?_) (fun h => ?_)
        · cases h
        have hobt : ∃ x1, r.x = x1 := ⟨_, rfl⟩
        obtain ⟨x1, hx1⟩ := hobt
        have hov1 : overL r.x fr b = x1.take fr ++ b ++ x1.drop (fr + b.length) := by rw [← hx1]; exact over_in (by omega)
        have hobt : ∃ by1, s.by_ + 0 = by1 := ⟨_, rfl⟩
        obtain ⟨by1, hby⟩ := hobt
        replace hs : Step S ((hb.b, blk 93 [.pointer (some ⟨r.b, 0, none⟩), .int .i64 (hb.pl : Nat), .int .i64 (hb.mo : Nat)]) :: (r.b, blk 89 [str r.p, .slice av x1.length cv]) :: (bf, blk 81 (fsC mf md vh { s with by_ := by1 })) :: (r.Lv ++ R)) w0 w := by rw [← hby, ← hx1]; exact hs
        have hv1 := hov
        rw [hx1] at hv1
        have hx1l : x1.length = r.x.length := by rw [hx1]
        have hobt : ∃ Lq, r.Lv = Lq := ⟨_, rfl⟩
        obtain ⟨Lq, hLq⟩ := hobt
        rw [hLq] at hs hv1
        have hobt : ∃ v1, Value.slice av x1.length cv = v1 := ⟨_, rfl⟩
        obtain ⟨v1, hv1e⟩ := hobt
        rw [hv1e] at hs hv1
        clear hv1e
        have hsm := hv1.some1 (by omega)
        obtain ⟨bd, cd, more, hq2, hqL, hcd⟩ := hsm
        subst hq2
        subst hqL
        rw [List.length_append] at hcd
        have hlm : (u8s x1 ++ more).length = x1.length + more.length := by simp [u8s]
        have hux : (u8s x1).length = x1.length := by simp [u8s]
        repeat (first | refine CW.seq ?_ | refine CW.block ?_ | refine CW.skip ?_ | refine CW.label ?_ | refine CW.exit ?_ | refine CW.condT rfl ?_ | refine CW.condF rfl ?_)
        refine CW.reg ?_
        refine WL.val rfl (run_move) ?_
        refine WL.val rfl (run_nilCheck rfl) ?_
        refine WL.val rfl (run_field (o' := 0) Tryd.underlying93 rfl ty86 rfl rfl rfl) ?_
        refine WL.val rfl (run_load1 ty86 rfl (hs.c0 (v := .pointer (some ⟨r.b, 0, none⟩)) rfl)) ?_
        refine WL.val rfl (run_nilCheck rfl) ?_
        refine WL.val rfl (run_field (o' := 1) Tryd.underlying89 rfl ty34 rfl rfl rfl) ?_
        refine WL.val rfl (run_load1 ty34 rfl (hs.c1 (v := .slice (some ⟨bd, 0, none⟩) x1.length cd) rfl)) ?_
        refine WL.val rfl (run_move) ?_
        refine WL.val rfl (run_sliceSlP  Tryd.underlying34 ty5 rfl rfl rfl rfl (by simp) (by omega) (by omega) (by omega) (by omega)) ?_
        refine WL.val rfl (run_move) ?_
        refine WL.copy Tryd.underlying34 ty5 rfl rfl (hs.front [_, _, _]) (hsb hs) (hc1) (by first | omega | exact Nat.le_of_ble_eq_true rfl | (simp [Ent.cells, u8s]; done)) (fun k hk => by cases hk; rfl) (fun w hs => ⟨fun k hk => ?_, fun h => by cases h⟩)
        cases hk
        refine WL.nil ?_
        replace hs : Step S ((bd, blk 5 (splice (u8s x1 ++ more) (0 + fr * 1) ((u8s b).take (min b.length (x1.length - fr) * 1)))) :: (hb.b, blk 93 [.pointer (some ⟨r.b, 0, none⟩), .int .i64 (hb.pl : Nat), .int .i64 (hb.mo : Nat)]) :: (r.b, blk 89 [str r.p, .slice (some ⟨bd, 0, none⟩) x1.length cd]) :: (bf, blk 81 (fsC mf md vh { s with by_ := by1 })) :: R) w0 w := hs
        rw [show (u8s b).take (min b.length (x1.length - fr) * 1) = u8s b by rw [List.take_of_length_le]; simp [u8s]; omega, Nat.zero_add, Nat.mul_one, splice_over x1 b [] fr (by omega)] at hs
        have hs2 := hs.perm (L' := (hb.b, blk 93 [.pointer (some ⟨r.b, 0, none⟩), .int .i64 (hb.pl : Nat), .int .i64 (hb.mo : Nat)]) :: (r.b, blk 89 [str r.p, .slice (some ⟨bd, 0, none⟩) x1.length cd]) :: (bf, blk 81 (fsC mf md vh { s with by_ := by1 })) :: ([(bd, blk 5 (u8s (x1.take fr ++ b ++ x1.drop (fr + b.length)) ++ more))] ++ R)) ((List.perm_middle (l₁ := [_, _, _])).symm)
        clear hs
        have hs := hs2
        repeat (first | refine CW.seq ?_ | refine CW.block ?_ | refine CW.skip ?_ | refine CW.label ?_ | refine CW.exit ?_ | refine CW.condT rfl ?_ | refine CW.condF rfl ?_)
        refine CW.reg ?_
        refine WL.val rfl (run_move) ?_
        refine WL.val rfl (run_move) ?_
        refine WL.val rfl (run_move) ?_
        refine WL.val rfl (run_lenSl Tryd.underlying34 rfl) ?_
        refine WL.val rfl (run_add (c := ((fr + b.length : Nat) : Int)) rfl rfl (by omega) (by omega)) ?_
        refine WL.val rfl (run_nilCheck rfl) ?_
        refine WL.val rfl (run_field (o' := 1) Tryd.underlying93 rfl ty3 rfl rfl rfl) ?_
        first | refine WL.store1 ty3 rfl rfl (rfl) hs (by first | (simp; done) | omega | (simp only [List.length_append, List.length_replicate, List.length_cons, List.length_nil, List.length_set]; omega) | (simp [Ent.cells, u8s]; done) | exact Nat.le_of_ble_eq_true rfl) (fun w hs => ?_) | refine WL.store1_1 ty3 rfl rfl (rfl) hs (by first | (simp; done) | omega | (simp only [List.length_append, List.length_replicate, List.length_cons, List.length_nil, List.length_set]; omega) | (simp [Ent.cells, u8s]; done) | exact Nat.le_of_ble_eq_true rfl) (fun w hs => ?_) | refine WL.store1_2 ty3 rfl rfl (rfl) hs (by first | (simp; done) | omega | (simp only [List.length_append, List.length_replicate, List.length_cons, List.length_nil, List.length_set]; omega) | (simp [Ent.cells, u8s]; done) | exact Nat.le_of_ble_eq_true rfl) (fun w hs => ?_) | refine WL.store1_3 ty3 rfl rfl (rfl) hs (by first | (simp; done) | omega | (simp only [List.length_append, List.length_replicate, List.length_cons, List.length_nil, List.length_set]; omega) | (simp [Ent.cells, u8s]; done) | exact Nat.le_of_ble_eq_true rfl) (fun w hs => ?_) | refine WL.store1_4 ty3 rfl rfl (rfl) hs (by first | (simp; done) | omega | (simp only [List.length_append, List.length_replicate, List.length_cons, List.length_nil, List.length_set]; omega) | (simp [Ent.cells, u8s]; done) | exact Nat.le_of_ble_eq_true rfl) (fun w hs => ?_) | refine WL.store1 ty3 rfl rfl (rfl) hs (by first | (simp; done) | omega | (simp only [List.length_append, List.length_replicate, List.length_cons, List.length_nil, List.length_set]; omega) | (simp [Ent.cells, u8s]; done) | exact Nat.le_of_ble_eq_true rfl) (fun w hs => ?_)
        refine WL.nil ?_
        repeat (first | refine CW.seq ?_ | refine CW.block ?_ | refine CW.skip ?_ | refine CW.label ?_ | refine CW.exit ?_ | refine CW.condT rfl ?_ | refine CW.condF rfl ?_)
        refine CW.reg ?_
        refine WL.val rfl (run_assign) ?_
        refine WL.nil ?_
        repeat (first | refine CW.seq ?_ | refine CW.block ?_ | refine CW.skip ?_ | refine CW.label ?_ | refine CW.exit ?_ | refine CW.condT rfl ?_ | refine CW.condF rfl ?_)
        refine CW.ret ?_
        refine fin_ret1 rfl ?_
        have hxl : (x1.take fr ++ b ++ x1.drop (fr + b.length)).length = x1.length := by simp; omega
        have hown : OwnSl 5 1 (.slice (some ⟨bd, 0, none⟩) x1.length cd) (x1.take fr ++ b ++ x1.drop (fr + b.length)).length (u8s (x1.take fr ++ b ++ x1.drop (fr + b.length))) [(bd, blk 5 (u8s (x1.take fr ++ b ++ x1.drop (fr + b.length)) ++ more))] := by
          refine ⟨by simp [u8s], .inr ⟨bd, cd, more, by rw [hxl], rfl, ?_⟩⟩
          rw [List.length_append, ← hcd, hux]
          simp only [u8s, List.length_map, hxl]
        have hobt := hset hown by1
        obtain ⟨L', hL', hp⟩ := hobt
        exact ⟨L', rfl, by rw [hby, hov1]; exact hL', hs.perm hp⟩
end
end Go.Gx
