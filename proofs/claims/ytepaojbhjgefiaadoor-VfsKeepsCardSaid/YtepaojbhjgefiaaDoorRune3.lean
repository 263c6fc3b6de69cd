/- strings.IndexAny on the two bytes that no name has, strings.ContainsAny. -/
import Derived.Test.YtepaojbhjgefiaaDoorRune2
namespace Go.Gx
open Go.Proofs
set_option linter.unusedVariables false
set_option linter.unusedSimpArgs false
set_option maxRecDepth 100000

def NB (s : List UInt8) (p : Nat) : Prop := ∀ (k : Nat) (h : k < s.length), k < p → badCh s[k] = false
theorem NB.all {s : List UInt8} {p : Nat} (h : NB s p) (hp : s.length ≤ p) : s.any badCh = false := by
  rw [List.any_eq_false]
  intro x hx
  have hobt := List.mem_iff_getElem.1 hx
  obtain ⟨k, hk, rfl⟩ := hobt
  simp [h k hk (by omega)]
theorem bAt_of {s : List UInt8} {k : Nat} (h : k < s.length) : bAt s k = (s[k]).toNat := by simp [bAt, h]
theorem bad_iff (c : UInt8) : badCh c = true ↔ c = 0 ∨ c = 47 := by simp [badCh]
theorem ix2 (c : UInt8) : (0 ≤ Lib.indexByte [0, 47] c) ↔ badCh c = true := by
  rw [bad_iff]
  by_cases h0 : c = 0
  · subst h0; decide
  · by_cases h1 : c = 47
    · subst h1; decide
    · have e0 : ((0 : UInt8) == c) = false := by simpa using fun h => h0 h.symm
      have e1 : ((47 : UInt8) == c) = false := by simpa using fun h => h1 h.symm
      have : Lib.indexByte [0, 47] c = -1 := by
        unfold Lib.indexByte Lib.indexByte
        rw [e0, e1]
        rfl
      rw [this]
      simp [h0, h1]

theorem sua_spec (n : Int) (w : World) : Calls Tryd.prog 92 #[.int .i64 n] w (Ret0 (.bool (decide (8 < n))) w) := (Tryd.strings_shouldUseASCIISet n w).mono fun e w' h => ⟨h.1, by rw [h.2]; exact Step.refl w⟩

theorem idxAny_short {s : List UInt8} (hl : s.length ≤ 8) (w0 : World) : Calls Tryd.prog 80 #[str s, str [0, 47]] w0 fun e w' => ∃ r : Int, e = .returned (.int .i64 r) ∧ (0 ≤ r ↔ s.any badCh = true) ∧ Step [] [] w0 w' := by
  have hs : Step [] [] w0 w0 := Step.refl w0
  refine calls (n := 55) Tryd.func80 rfl rfl rfl ?_
  repeat (first | refine CW.seq ?_ | refine CW.block ?_ | refine CW.skip ?_ | refine CW.label ?_ | refine CW.exit ?_ | refine CW.condT rfl ?_ | refine CW.condF rfl ?_)
  refine CW.reg ?_
  refine WL.val rfl (run_assign) ?_
  refine WL.nil ?_
  repeat (first | refine CW.seq ?_ | refine CW.block ?_ | refine CW.skip ?_ | refine CW.label ?_ | refine CW.exit ?_ | refine CW.condT rfl ?_ | refine CW.condF rfl ?_)
  refine CW.reg ?_
  refine WL.val rfl (run_move) ?_
  refine WL.val rfl (run_bF (run_strEq rfl rfl) (by decide)) ?_
  refine WL.nil ?_
  repeat (first | refine CW.seq ?_ | refine CW.block ?_ | refine CW.skip ?_ | refine CW.label ?_ | refine CW.exit ?_ | refine CW.condT rfl ?_ | refine CW.condF rfl ?_)
  refine CW.reg ?_
  refine WL.val rfl (run_move) ?_
  refine WL.val rfl (run_lenStr Tryd.underlying9 rfl) ?_
  refine WL.val rfl (run_bF (run_eql rfl rfl) (by show ¬ ((2 : Nat) : Int) = 1; decide)) ?_
  refine WL.nil ?_
  repeat (first | refine CW.seq ?_ | refine CW.block ?_ | refine CW.skip ?_ | refine CW.label ?_ | refine CW.exit ?_ | refine CW.condT rfl ?_ | refine CW.condF rfl ?_)
  refine CW.reg ?_
  refine WL.val rfl (run_move) ?_
  refine WL.val rfl (run_lenStr Tryd.underlying9 rfl) ?_
  refine WL.enter rfl (run_call en92 rfl rfl) (sua_spec _ _) ?_
  rintro e w ⟨rfl, hq⟩
  refine ⟨_, rfl, ?_⟩
  replace hs := hs.callE hq
  rw [decide_eq_false (by omega)]
  refine WL.nil ?_
  repeat (first | refine CW.seq ?_ | refine CW.block ?_ | refine CW.skip ?_ | refine CW.label ?_ | refine CW.exit ?_ | refine CW.condT rfl ?_ | refine CW.condF rfl ?_)
  refine CW.reg ?_
  refine WL.val rfl (run_move) ?_
  refine WL.rangeS Tryd.underlying9 rfl rfl hs (fun b45 w hs => ?_)
  refine WL.nil ?_
  repeat (first | refine CW.seq ?_ | refine CW.block ?_ | refine CW.skip ?_ | refine CW.label ?_ | refine CW.exit ?_ | refine CW.condT rfl ?_ | refine CW.condF rfl ?_)
  refine CW.loop (fun m f w' => ∃ p, p ≤ s.length ∧ m = s.length - p ∧ NB s p ∧ Step [] [(b45, .stringIter ⟨⟨s⟩⟩ p)] w0 w' ∧ Holds f [(0, str s), (1, str [0, 47]), (45, .pointer (some ⟨b45, 0, none⟩))]) (m := s.length) ?_ ?_
  · exact ⟨0, by omega, by omega, fun k h1 h2 => by omega, hs, rfl, rfl, rfl, trivial⟩
  · rintro m f w ⟨p, hp, rfl, hn, hs, hf⟩
    have hobt := hf.chain
    obtain ⟨g, rfl⟩ := hobt
    by_cases he : p = s.length
    · subst he
      repeat (first | refine CW.seq ?_ | refine CW.block ?_ | refine CW.skip ?_ | refine CW.label ?_ | refine CW.exit ?_ | refine CW.condT rfl ?_ | refine CW.condF rfl ?_)
      refine CW.reg ?_
      refine WL.nextEnd rfl rfl hs (by omega) ?_
      refine WL.val rfl (run_extract rfl rfl) ?_
      refine WL.nil ?_
      repeat (first | refine CW.seq ?_ | refine CW.block ?_ | refine CW.skip ?_ | refine CW.label ?_ | refine CW.exit ?_ | refine CW.condT rfl ?_ | refine CW.condF rfl ?_)
      refine CW.reg ?_
      refine WL.val rfl (run_assign) ?_
      refine WL.nil ?_
      repeat (first | refine CW.seq ?_ | refine CW.block ?_ | refine CW.skip ?_ | refine CW.label ?_ | refine CW.exit ?_ | refine CW.condT rfl ?_ | refine CW.condF rfl ?_)
      refine CW.ret ?_
      refine fin_ret1 rfl ?_
      exact ⟨-1, rfl, by rw [hn.all (Nat.le_refl _)]; decide, hs.clear⟩
    · have hlt : p < s.length := by omega
      by_cases ha : bAt s p < 128
      · have hb := bAt_of hlt
        repeat (first | refine CW.seq ?_ | refine CW.block ?_ | refine CW.skip ?_ | refine CW.label ?_ | refine CW.exit ?_ | refine CW.condT rfl ?_ | refine CW.condF rfl ?_)
        refine CW.reg ?_
        refine WL.nextS rfl rfl hs (by omega) (dec_ascii ha) (fun w hs => ?_)
        refine WL.val rfl (run_extract rfl rfl) ?_
        refine WL.nil ?_
        repeat (first | refine CW.seq ?_ | refine CW.block ?_ | refine CW.skip ?_ | refine CW.label ?_ | refine CW.exit ?_ | refine CW.condT rfl ?_ | refine CW.condF rfl ?_)
        refine CW.reg ?_
        refine WL.val rfl (run_extract rfl rfl) ?_
        refine WL.val rfl (run_extract rfl rfl) ?_
        refine WL.val rfl (run_assign) ?_
        refine WL.val rfl (run_assign) ?_
        refine WL.nil ?_
        by_cases hbad : badCh s[p] = true
        · repeat (first | refine CW.seq ?_ | refine CW.block ?_ | refine CW.skip ?_ | refine CW.label ?_ | refine CW.exit ?_ | refine CW.condT rfl ?_ | refine CW.condF rfl ?_)
          refine CW.reg ?_
          refine WL.val rfl (run_move) ?_
          refine WL.val rfl (run_move) ?_
          refine WL.enter rfl (run_call en91 rfl rfl) (ir_spec _ _ _ (by omega) (by omega)) ?_
          rintro e w ⟨rfl, hq⟩
          refine ⟨_, rfl, ?_⟩
          refine WL.val rfl (run_bT (run_geq rfl rfl) (by rw [hb, Int.toNat_natCast, Nat.toUInt8_eq, UInt8.ofNat_toNat]; exact (ix2 _).2 hbad)) ?_
          refine WL.nil ?_
          repeat (first | refine CW.seq ?_ | refine CW.block ?_ | refine CW.skip ?_ | refine CW.label ?_ | refine CW.exit ?_ | refine CW.condT rfl ?_ | refine CW.condF rfl ?_)
          refine CW.reg ?_
          refine WL.val rfl (run_move) ?_
          refine WL.val rfl (run_assign) ?_
          refine WL.nil ?_
          repeat (first | refine CW.seq ?_ | refine CW.block ?_ | refine CW.skip ?_ | refine CW.label ?_ | refine CW.exit ?_ | refine CW.condT rfl ?_ | refine CW.condF rfl ?_)
          refine CW.ret ?_
          refine fin_ret1 rfl ?_
          have hany : s.any badCh = true := List.any_eq_true.2 ⟨_, List.getElem_mem hlt, hbad⟩
          exact ⟨p, rfl, by rw [hany]; simp, (hs.callE hq).clear⟩
        · repeat (first | refine CW.seq ?_ | refine CW.block ?_ | refine CW.skip ?_ | refine CW.label ?_ | refine CW.exit ?_ | refine CW.condT rfl ?_ | refine CW.condF rfl ?_)
          refine CW.reg ?_
          refine WL.val rfl (run_move) ?_
          refine WL.val rfl (run_move) ?_
          refine WL.enter rfl (run_call en91 rfl rfl) (ir_spec _ _ _ (by omega) (by omega)) ?_
          rintro e w ⟨rfl, hq⟩
          refine ⟨_, rfl, ?_⟩
          refine WL.val rfl (run_bF (run_geq rfl rfl) (by rw [hb, Int.toNat_natCast, Nat.toUInt8_eq, UInt8.ofNat_toNat]; exact fun h => hbad ((ix2 _).1 h))) ?_
          refine WL.nil ?_
          repeat (first | refine CW.seq ?_ | refine CW.block ?_ | refine CW.skip ?_ | refine CW.label ?_ | refine CW.exit ?_ | refine CW.condT rfl ?_ | refine CW.condF rfl ?_)
          repeat (first | refine CW.seq ?_ | refine CW.block ?_ | refine CW.skip ?_ | refine CW.label ?_ | refine CW.exit ?_)
          refine (show _ ∧ _ from ⟨rfl, _, ?_, p + 1, by omega, rfl, ?_, hs.callE hq, rfl, rfl, rfl, trivial⟩)
          · omega
          · intro k h1 h2
            by_cases hk : k = p
            · subst hk; simpa using hbad
            · exact hn k h1 (by omega)
      · have hobt := dec_wide hlt (by omega)
        obtain ⟨h1, h2, h3, h4, h5⟩ := hobt
        have hobt : ∃ c wd, Utf8.decode ⟨⟨s⟩⟩ p = (c, wd) := ⟨_, _, rfl⟩
        obtain ⟨c, wd, hd⟩ := hobt
        rw [hd] at h1 h2 h3 h4 h5
        simp only at h1 h2 h3 h4 h5
        repeat (first | refine CW.seq ?_ | refine CW.block ?_ | refine CW.skip ?_ | refine CW.label ?_ | refine CW.exit ?_ | refine CW.condT rfl ?_ | refine CW.condF rfl ?_)
        refine CW.reg ?_
        refine WL.nextS rfl rfl hs (by omega) (hd) (fun w hs => ?_)
        refine WL.val rfl (run_extract rfl rfl) ?_
        refine WL.nil ?_
        repeat (first | refine CW.seq ?_ | refine CW.block ?_ | refine CW.skip ?_ | refine CW.label ?_ | refine CW.exit ?_ | refine CW.condT rfl ?_ | refine CW.condF rfl ?_)
        refine CW.reg ?_
        refine WL.val rfl (run_extract rfl rfl) ?_
        refine WL.val rfl (run_extract rfl rfl) ?_
        refine WL.val rfl (run_assign) ?_
        refine WL.val rfl (run_assign) ?_
        refine WL.nil ?_
        repeat (first | refine CW.seq ?_ | refine CW.block ?_ | refine CW.skip ?_ | refine CW.label ?_ | refine CW.exit ?_ | refine CW.condT rfl ?_ | refine CW.condF rfl ?_)
        refine CW.reg ?_
        refine WL.val rfl (run_move) ?_
        refine WL.val rfl (run_move) ?_
        refine WL.enter rfl (run_call en91 rfl rfl) (idxRune_wide h1 h2 _) ?_
        rintro e w ⟨rfl, hq⟩
        refine ⟨_, rfl, ?_⟩
        refine WL.val rfl (run_bF (run_geq rfl rfl) (by decide)) ?_
        refine WL.nil ?_
        repeat (first | refine CW.seq ?_ | refine CW.block ?_ | refine CW.skip ?_ | refine CW.label ?_ | refine CW.exit ?_ | refine CW.condT rfl ?_ | refine CW.condF rfl ?_)
        repeat (first | refine CW.seq ?_ | refine CW.block ?_ | refine CW.skip ?_ | refine CW.label ?_ | refine CW.exit ?_)
        refine (show _ ∧ _ from ⟨rfl, _, ?_, p + wd, by omega, rfl, ?_, hs.callE hq, rfl, rfl, rfl, trivial⟩)
        · omega
        · intro k hk1 hk2
          by_cases hk : k < p
          · exact hn k hk1 hk
          · have := h5 (k - p) (by omega)
            rw [show p + (k - p) = k by omega, bAt_of hk1] at this
            have : ¬ badCh s[k] = true := fun h => by
              rcases (bad_iff _).1 h with h | h <;> rw [h] at this <;> revert this <;> decide
            simpa using this

theorem idxAny_iff : ∀ s : List UInt8, (0 ≤ Lib.indexAny s [0, 47]) ↔ s.any badCh = true
  | [] => by decide
  | b :: l => by
    have ih := idxAny_iff l
    have hc : ([0, 47] : List UInt8).contains b = badCh b := by
      have := bad_iff b
      cases hb : badCh b
      · rw [hb] at this; simp at this ⊢; exact this
      · rw [hb] at this; simp at this ⊢; exact this
    have hge := Lib.indexAny_ge [0, 47] l
    unfold Lib.indexAny
    rw [hc, List.any_cons]
    cases badCh b
    · simp only [Bool.false_eq_true, if_false, Bool.false_or]
      rw [← ih]
      split
      · rename_i h; simp at h; omega
      · rename_i h; simp at h; omega
    · simp

theorem idxAny_long {s : List UInt8} (hl : 8 < s.length) (hl2 : s.length ≤ 64) (w0 : World) : Calls Tryd.prog 80 #[str s, str [0, 47]] w0 fun e w' => ∃ r : Int, e = .returned (.int .i64 r) ∧ (0 ≤ r ↔ s.any badCh = true) ∧ Step [] [] w0 w' := by
  have hz : ∀ w, (zeroValue 154).run Tryd.prog w = .ok (.agg (Array.replicate 256 (.bool false))) w := by
    have h : (Tryd.prog.info? 154).map (fun i => (i.zero, i.size)) = some (some (.agg (Array.replicate 256 (.bool false))), 256) := by kernel_rfl
    intro w
    cases hi : Tryd.prog.info? 154 with
    | none => rw [hi] at h; cases h
    | some i =>
      rw [hi] at h
      simp at h
      simp [zeroValue, typeInfo, hi, h.1]
  refine (Tryd.strings_IndexAny_long hz ⟨⟨s⟩⟩ ⟨⟨[0, 47]⟩⟩ w0 (by decide) (by show 8 < s.length; exact hl) (by show s.length < _; omega) (by decide) ?_).mono ?_
  · intro j b hj
    have hm : b ∈ ([0, 47] : List UInt8) := List.mem_of_getElem? hj
    simp at hm
    rcases hm with rfl | rfl <;> decide
  · rintro e w' ⟨rfl, rfl⟩
    exact ⟨_, rfl, idxAny_iff s, (((Step.refl w0).alloc _).alloc _).clear⟩

theorem containsAny_spec {s : List UInt8} {b : Bool} (hl : s.length ≤ 64) (hb : s.any badCh = b) (w : World) : Calls Tryd.prog 63 #[str s, str [0, 47]] w (Ret0 (.bool b) w) := by
  have hs : Step [] [] w w := Step.refl w
  have hc : Calls Tryd.prog 80 #[str s, str [0, 47]] w fun e w' => ∃ r : Int, e = .returned (.int .i64 r) ∧ (0 ≤ r ↔ s.any badCh = true) ∧ Step [] [] w w' := by
    rcases Nat.lt_or_ge 8 s.length with h | h
    · exact idxAny_long h hl w
    · exact idxAny_short h w
  cases b
  · refine calls (n := 9) Tryd.func63 rfl rfl rfl ?_
    repeat (first | refine CW.seq ?_ | refine CW.block ?_ | refine CW.skip ?_ | refine CW.label ?_ | refine CW.exit ?_ | refine CW.condT rfl ?_ | refine CW.condF rfl ?_)
    refine CW.reg ?_
    refine WL.val rfl (run_assign) ?_
    refine WL.nil ?_
    repeat (first | refine CW.seq ?_ | refine CW.block ?_ | refine CW.skip ?_ | refine CW.label ?_ | refine CW.exit ?_ | refine CW.condT rfl ?_ | refine CW.condF rfl ?_)
    refine CW.reg ?_
    refine WL.val rfl (run_move) ?_
    refine WL.val rfl (run_move) ?_
    refine WL.enter rfl (run_call en80 rfl rfl) (hc) ?_
    rintro e w ⟨r, rfl, hr, hq⟩
    refine ⟨_, rfl, ?_⟩
    refine WL.val rfl (run_bF (run_geq rfl rfl) (by exact fun h => by rw [hr.1 h] at hb; cases hb)) ?_
    refine WL.val rfl (run_assign) ?_
    refine WL.nil ?_
    repeat (first | refine CW.seq ?_ | refine CW.block ?_ | refine CW.skip ?_ | refine CW.label ?_ | refine CW.exit ?_ | refine CW.condT rfl ?_ | refine CW.condF rfl ?_)
    refine CW.ret ?_
    refine fin_ret1 rfl ?_
    exact ⟨rfl, hs.callE hq⟩
  · refine calls (n := 9) Tryd.func63 rfl rfl rfl ?_
    repeat (first | refine CW.seq ?_ | refine CW.block ?_ | refine CW.skip ?_ | refine CW.label ?_ | refine CW.exit ?_ | refine CW.condT rfl ?_ | refine CW.condF rfl ?_)
    refine CW.reg ?_
    refine WL.val rfl (run_assign) ?_
    refine WL.nil ?_
    repeat (first | refine CW.seq ?_ | refine CW.block ?_ | refine CW.skip ?_ | refine CW.label ?_ | refine CW.exit ?_ | refine CW.condT rfl ?_ | refine CW.condF rfl ?_)
    refine CW.reg ?_
    refine WL.val rfl (run_move) ?_
    refine WL.val rfl (run_move) ?_
    refine WL.enter rfl (run_call en80 rfl rfl) (hc) ?_
    rintro e w ⟨r, rfl, hr, hq⟩
    refine ⟨_, rfl, ?_⟩
    refine WL.val rfl (run_bT (run_geq rfl rfl) (by exact hr.2 hb)) ?_
    refine WL.val rfl (run_assign) ?_
    refine WL.nil ?_
    repeat (first | refine CW.seq ?_ | refine CW.block ?_ | refine CW.skip ?_ | refine CW.label ?_ | refine CW.exit ?_ | refine CW.condT rfl ?_ | refine CW.condF rfl ?_)
    refine CW.ret ?_
    refine fin_ret1 rfl ?_
    exact ⟨rfl, hs.callE hq⟩
end Go.Gx
