/- strings.IndexRune and strings.IndexAny on the two bytes that no name has; strings.ContainsAny. strings.IndexAny on the two bytes that no name has, strings.ContainsAny. Names: the program's IsName and the document's. Plain words for paths: the parts of a text; what the library's Split tells. No program in sight. More operations on slices: compared with nil, append in its room, append of zeros, clear, a library function without a Go body. No program in sight. The parts of a text: the program's and the document's. Clean: the program's and the document's. The program's Clean, IsClean. The document's Path and Clean. The document's Clean. IsClean: the program's, the document's, and that they agree. IsClean: both walks. -/
import Derived.Test.YtepaojbhjgefiaaGreatDoorC2
import Derived.Test.YtepaojbhjgefiaaGreatDoorShelf
import Derived.Test.YtepaojbhjgefiaaGreatDoorTab
import Derived.Test.YtepaojbhjgefiaaGreatDoorC1
import Derived.Lib.Split
import Derived.Lib.SplitLaws
import Derived.Lib.CountLaws
import Derived.Lib.IndexBytes
import Derived.Lib.IndexLaws
import Derived.Lib.SliceRun
import Derived.Lib.Overlaps
import Derived.Laws.Externs
import Derived.Lib.Join
import Derived.Below
set_option linter.unusedVariables false
set_option linter.unusedSimpArgs false
/-! Rune2 -/
namespace Go.Gx
open Go.Proofs Go.Proofs.Tryz
set_option maxRecDepth 100000

theorem run_i32Str {P : Program} {f : Slots} {w : World} {d : Option Tmp} {ty : TypeId} {pos : String} {af : Array Edge} {x : Operand} {T T' : TypeId} {c : Int} (hs : P.underlying T = some (.int .i32)) (ht : P.underlying T' = some .string) (hx : ev f x = .int .i32 c) :
  (execOp (ev f) ⟨d, .convert T T' x, ty, pos, af, none⟩).run P w = .ok (.value (str (Utf8.encode c).data.toList)) w := by
 simp [execOp, hx, convert, run_underlying hs, run_underlying ht, str, Conv.intToString]

theorem enc_wide {c : Nat} (h : 128 ≤ c) : 2 ≤ (Utf8.encode c).data.toList.length ∧ (Utf8.encode c).data.toList.length ≤ 4 ∧ ∀ b ∈ (Utf8.encode c).data.toList, 128 ≤ b.toNat := by
 have hb : ∀ (k : Nat), 128 ≤ k → k < 256 → 128 ≤ (UInt8.ofNat k).toNat := fun k h1 h2 => by rw [UInt8.toNat_ofNat_of_lt' h2]; exact h1
 obtain ⟨u, hu, hu1, hu2⟩ : ∃ u : Nat, (if Utf8.valid (c : Int) then ((c : Int)).toNat else Utf8.runeError) = u ∧ 128 ≤ u ∧ u ≤ 1114111 := by
  by_cases hv : Utf8.valid (c : Int) = true
  ·refine ⟨c, by rw [if_pos hv]; simp, h, ?_⟩
   simp only [Utf8.valid, Bool.or_eq_true, Bool.and_eq_true, decide_eq_true_eq] at hv
   omega
  ·exact ⟨65533, by rw [if_neg hv]; rfl, by decide, by decide⟩
 unfold Utf8.encode
 simp only [hu]
 rw [if_neg (by omega)]
 split
 ·refine ⟨by simp, by simp, fun b hb' => ?_⟩
  simp only [List.mem_cons, List.not_mem_nil, or_false] at hb'
  rcases hb' with rfl | rfl <;> exact hb _ (by omega) (by omega)
 split
 ·refine ⟨by simp, by simp, fun b hb' => ?_⟩
  simp only [List.mem_cons, List.not_mem_nil, or_false] at hb'
  rcases hb' with rfl | rfl | rfl <;> exact hb _ (by omega) (by omega)
 ·refine ⟨by simp, by simp, fun b hb' => ?_⟩
  simp only [List.mem_cons, List.not_mem_nil, or_false] at hb'
  rcases hb' with rfl | rfl | rfl | rfl <;> exact hb _ (by omega) (by omega)

theorem vr_spec (c : Int) (w : World) : Calls Tryz.prog 123 #[.int .i32 c] w (Ret0 (.bool (Lib.validRune c)) w) := (Tryz.utf8_ValidRune c w).mono fun e w' h => ⟨h.1, by rw [h.2]; exact Step.refl w⟩
theorem ib_spec (s : List UInt8) (c : Int) (w : World) : Calls Tryz.prog 122 #[str s, .int .u8 c] w (Ret0 (.int .i64 (Lib.indexByte s c.toNat.toUInt8)) w) := (Tryz.strings_IndexByte ⟨⟨s⟩⟩ c w).mono fun e w' h => ⟨h.1, by rw [h.2]; exact Step.refl w⟩
theorem ir_spec (s : List UInt8) (c : Int) (w : World) (h0 : 0 ≤ c) (h1 : c < 128) : Calls Tryz.prog 112 #[str s, .int .i32 c] w (Ret0 (.int .i64 (Lib.indexByte s c.toNat.toUInt8)) w) := (Tryz.strings_IndexRune_ascii ⟨⟨s⟩⟩ c w h0 h1).mono fun e w' h => ⟨h.1, by rw [h.2]; exact Step.refl w⟩

theorem idxRune_wide {c : Nat} (h : 128 ≤ c) (hc : c ≤ 1114111) (w0 : World) : Calls Tryz.prog 112 #[str [0, 47], .int .i32 c] w0 (Ret0 (.int .i64 (-1)) w0) := by
 have hs : Step [] [] w0 w0 := Step.refl w0
 by_cases hre : c = 65533
 ·subst hre
  refine calls (n := 187) Tryz.func112 rfl rfl rfl ?_
  refine cQ <| cR <| wa rfl <| wZ ?_
  repeat (first | refine cQ ?_ | refine CW.block ?_)
  refine cR <| wm rfl <| wV rfl (run_bT (run_leq rfl rfl) (by decide)) <| wm rfl <| WL.yes rfl rfl rfl <| wm rfl <| WL.yes rfl rfl rfl <| wV rfl (run_bF (run_lss rfl rfl) (by decide)) <| wV rfl (run_pickT rfl) <| wa rfl <| wZ ?_
  repeat (first | refine cQ ?_ | refine CW.condF rfl ?_)
  refine cR <| wm rfl <| wV rfl (run_bT (run_eql rfl rfl) (by decide)) <| wa rfl <| wZ ?_
  repeat (first | refine cQ ?_ | refine CW.condT rfl ?_)
  refine cR <| wm rfl ?_
  refine WL.rangeS underlying9 rfl rfl hs (fun b175 w hs => ?_)
  refine wZ <| CW.block ?_
  refine CW.loop (fun m f w' => ∃ p, p ≤ 2 ∧ m = 2 - p ∧ Step [] [(b175, .stringIter ⟨⟨[0, 47]⟩⟩ p)] w0 w' ∧ Holds f [(0, str [0, 47]), (175, .pointer (some ⟨b175, 0, none⟩))]) (m := 2) ?_ ?_
  ·exact ⟨0, by omega, by omega, hs, rfl, rfl, trivial⟩
  ·rintro m f w ⟨p, hp, rfl, hs, hf⟩
   have hobt := hf.chain
   obtain ⟨g, rfl⟩ := hobt
   by_cases hp2 : p = 2
   ·subst hp2
    refine cQ <| cR ?_
    refine WL.nextEnd rfl rfl hs (by decide) ?_
    refine wx rfl rfl rfl <| wZ ?_
    repeat (first | refine cQ ?_ | refine CW.exit ?_ | refine CW.condF rfl ?_)
    refine cR <| wa rfl <| wZ ?_
    refine CW.ret ?_
    refine fin_ret1 rfl ?_
    exact ⟨rfl, hs.clear⟩
   ·have hb : bAt [0, 47] p = 0 ∨ bAt [0, 47] p = 47 := by
     rcases (by omega : p = 0 ∨ p = 1) with rfl | rfl
     ·exact .inl rfl
     ·exact .inr rfl
    have hp3 : p < ([0, 47] : List UInt8).length := by show p < 2; omega
    refine cQ <| cR ?_
    refine WL.nextS rfl rfl hs (by omega) (dec_ascii (by omega)) (fun w hs => ?_)
    refine wx rfl rfl rfl <| wZ ?_
    repeat (first | refine cQ ?_ | refine CW.block ?_ | refine cK ?_ | refine CW.condT rfl ?_)
    refine cR <| wx rfl rfl rfl <| wx rfl rfl rfl <| wa rfl <| wa rfl <| wZ <| cQ <| cR <| wm rfl <| wV rfl (run_bF (run_eql rfl rfl) (by omega)) <| wZ ?_
    repeat (first | refine cK ?_ | refine CW.condF rfl ?_)
    refine (show _ ∧ _ from ⟨rfl, _, ?_, p + 1, by omega, rfl, hs, rfl, rfl, trivial⟩)
    omega
 ·by_cases hv : Lib.validRune c = true
  ·have hobt : ∃ rs, (Utf8.encode c).data.toList = rs := ⟨_, rfl⟩
   obtain ⟨rs, hrs⟩ := hobt
   have henc := enc_wide h
   rw [hrs] at henc
   obtain ⟨hl2, hl4, hby⟩ := henc
   refine calls (n := 187) Tryz.func112 rfl rfl rfl ?_
   refine cQ <| cR <| wa rfl <| wZ ?_
   repeat (first | refine cQ ?_ | refine CW.block ?_)
   refine cR <| wm rfl <| wV rfl (run_bT (run_leq rfl rfl) (by omega)) <| wm rfl <| WL.yes rfl rfl rfl <| wm rfl <| WL.yes rfl rfl rfl <| wV rfl (run_bF (run_lss rfl rfl) (by omega)) <| wV rfl (run_pickT rfl) <| wa rfl <| wZ ?_
   repeat (first | refine cQ ?_ | refine CW.condF rfl ?_)
   refine cR <| wm rfl <| wV rfl (run_bF (run_eql rfl rfl) (by omega)) <| wa rfl <| wZ ?_
   repeat (first | refine cQ ?_ | refine CW.condF rfl ?_)
   refine cR <| wm rfl ?_
   refine wE rfl (run_call en123 rfl rfl) (vr_spec c _) ?_
   rintro e w ⟨rfl, hq⟩
   refine ⟨_, rfl, ?_⟩
   replace hs := hs.callE hq
   rw [hv]
   refine wV rfl (run_not rfl) <| wa rfl <| wZ <| CW.condF rfl ?_
   refine CW.scope ?_
   refine cQ <| cR <| wm rfl <| wV rfl (run_i32Str underlying21 underlying9 rfl) <| wa rfl <| wZ ?_
   rw [hrs]
   refine cQ <| cR <| wm rfl <| wV rfl (run_lenStr underlying9 rfl) <| wV rfl (run_sub (c := ((rs.length - 1 : Nat) : Int)) rfl rfl (by omega) (by omega)) <| wa rfl <| wZ <| cQ <| cR <| wm rfl <| wa rfl <| wZ <| cQ <| cR <| wa rfl <| wZ ?_
   repeat (first | refine cQ ?_ | refine CW.block ?_)
   refine CW.loop (fun m f w' => m = 0 ∧ Step [] [] w0 w' ∧ Holds f [(0, str [0, 47]), (7, str rs), (8, .int .i64 (rs.length - 1 : Nat)), (9, .int .i64 (rs.length - 1 : Nat))]) (m := 0) ?_ ?_
   ·exact ⟨rfl, hs, rfl, rfl, rfl, rfl, trivial⟩
   ·rintro m f w ⟨rfl, hs, hf⟩
    have hobt := hf.chain
    obtain ⟨g, rfl⟩ := hobt
    by_cases hl3 : rs.length = 2
    ·obtain ⟨r0, r1, rfl⟩ : ∃ r0 r1, rs = [r0, r1] := by
      match rs, hl3 with
      | [r0, r1], _ => exact ⟨r0, r1, rfl⟩
     have hge := hby r1 (by simp)
     refine cQ <| cQ <| cR <| wm rfl <| wm rfl <| wV rfl (run_lenStr underlying9 rfl) <| wV rfl (run_bT (run_lss rfl rfl) (by show ((1 : Nat) : Int) < ((2 : Nat) : Int); decide)) <| wZ ?_
     repeat (first | refine CW.block ?_ | refine cK ?_ | refine CW.condT rfl ?_)
     refine CW.scope ?_
     refine cQ <| cQ ?_
     refine CW.quiet mixedP (by kernel_rfl) hs ?_
     refine qm rfl <| qm rfl <| qV rfl (fun w hs => run_strIdx underlying9 rfl rfl ((show ([0, 47] : List UInt8)[1]? = some 47 from rfl))) <| qm rfl <| qm rfl <| qV rfl (fun w hs => run_strIdx underlying9 rfl rfl ((show [r0, r1][1]? = some r1 from rfl))) ?_
     refine qV rfl (fun w hs => run_bT (run_neq rfl rfl) (by show ¬ (((47 : UInt8).toNat : Int) = _); have : (47 : UInt8).toNat = 47 := rfl; omega)) ?_
     refine QL.nil (fun w hs => ?_)
     repeat (first | refine cQ ?_ | refine CW.condT rfl ?_)
     refine CW.quiet mixedP (by kernel_rfl) hs ?_
     refine qm rfl <| qm rfl <| qV rfl (fun w hs => run_add (c := ((2 : Nat) : Int)) rfl rfl (by omega) (by omega)) <| qV rfl (fun w hs => run_sliceStr (lo := 2) (hi := 2) underlying9 rfl rfl rfl (Nat.le_refl 2) (Nat.le_refl 2)) <| qm rfl <| qm rfl <| qV rfl (fun w hs => run_strIdx underlying9 rfl rfl ((show [r0, r1][1]? = some r1 from rfl))) ?_
     refine QL.enter rfl (fun w => run_call en122 rfl rfl) (fun w hs => ib_spec [] _ _) ?_
     refine qV rfl (fun w hs => run_assign) ?_
     refine QL.nil (fun w hs => ?_)
     refine cQ <| cQ <| cR <| wm rfl <| wV rfl (run_bT (run_lss rfl rfl) (by show (-1 : Int) < 0; decide)) <| wZ ?_
     repeat (first | refine cQ ?_ | refine CW.condT rfl ?_)
     refine cR <| wa rfl <| wZ ?_
     refine CW.ret ?_
     refine fin_ret1 rfl ?_
     exact ⟨rfl, hs⟩
    ·refine cQ <| cQ <| cR <| wm rfl <| wm rfl <| wV rfl (run_lenStr underlying9 rfl) <| wV rfl (run_bF (run_lss rfl rfl) (by show ¬ ((rs.length - 1 : Nat) : Int) < ((2 : Nat) : Int); omega)) <| wZ ?_
     repeat (first | refine cQ ?_ | refine CW.exit ?_ | refine CW.condF rfl ?_)
     refine cR <| wa rfl <| wZ ?_
     refine CW.ret ?_
     refine fin_ret1 rfl ?_
     exact ⟨rfl, hs⟩
  ·refine calls (n := 187) Tryz.func112 rfl rfl rfl ?_
   refine cQ <| cR <| wa rfl <| wZ ?_
   repeat (first | refine cQ ?_ | refine CW.block ?_)
   refine cR <| wm rfl <| wV rfl (run_bT (run_leq rfl rfl) (by omega)) <| wm rfl <| WL.yes rfl rfl rfl <| wm rfl <| WL.yes rfl rfl rfl <| wV rfl (run_bF (run_lss rfl rfl) (by omega)) <| wV rfl (run_pickT rfl) <| wa rfl <| wZ ?_
   repeat (first | refine cQ ?_ | refine CW.condF rfl ?_)
   refine cR <| wm rfl <| wV rfl (run_bF (run_eql rfl rfl) (by omega)) <| wa rfl <| wZ ?_
   repeat (first | refine cQ ?_ | refine CW.condF rfl ?_)
   refine cR <| wm rfl ?_
   refine wE rfl (run_call en123 rfl rfl) (vr_spec c _) ?_
   rintro e w ⟨rfl, hq⟩
   refine ⟨_, rfl, ?_⟩
   replace hs := hs.callE hq
   rw [show Lib.validRune c = false by simpa using hv]
   refine wV rfl (run_not rfl) <| wa rfl <| wZ ?_
   repeat (first | refine cQ ?_ | refine CW.condT rfl ?_)
   refine cR <| wa rfl <| wZ ?_
   refine CW.ret ?_
   refine fin_ret1 rfl ?_
   exact ⟨rfl, hs⟩
end Go.Gx
/-! Rune3 -/
namespace Go.Gx
open Go.Proofs Go.Proofs.Tryz
set_option maxRecDepth 100000

def NB (s : List UInt8) (p : Nat) : Prop := ∀ (k : Nat) (h : k < s.length), k < p → badCh s[k] = false
theorem NB.all {s : List UInt8} {p : Nat} (h : NB s p) (hp : s.length ≤ p) : s.any badCh = false := by
 rw [List.any_eq_false]
 intro x hx
 have hobt := List.mem_iff_getElem.1 hx
 obtain ⟨k, hk, rfl⟩ := hobt
 simp [h k hk (by omega)]
theorem bAt_of {s : List UInt8} {k : Nat} (h : k < s.length) : bAt s k = (s[k]).toNat := by simp [bAt, h]
theorem bad_iff (c : UInt8) : badCh c = true ↔ c = 0 ∨ c = 47 := by simp [badCh]
theorem ix2 (c : UInt8) : (0 ≤ Lib.indexByte [0, 47] c) ↔ badCh c = true := by
 rw [bad_iff]
 by_cases h0 : c = 0
 ·subst h0; decide
 ·by_cases h1 : c = 47
  ·subst h1; decide
  ·have e0 : ((0 : UInt8) == c) = false := by simpa using fun h => h0 h.symm
   have e1 : ((47 : UInt8) == c) = false := by simpa using fun h => h1 h.symm
   have : Lib.indexByte [0, 47] c = -1 := by
    unfold Lib.indexByte Lib.indexByte
    rw [e0, e1]
    rfl
   rw [this]
   simp [h0, h1]

theorem sua_spec (n : Int) (w : World) : Calls Tryz.prog 113 #[.int .i64 n] w (Ret0 (.bool (decide (8 < n))) w) := (Tryz.strings_shouldUseASCIISet n w).mono fun e w' h => ⟨h.1, by rw [h.2]; exact Step.refl w⟩

theorem idxAny_short {s : List UInt8} (hl : s.length ≤ 8) (w0 : World) : Calls Tryz.prog 105 #[str s, str [0, 47]] w0 fun e w' => ∃ r : Int, e = .returned (.int .i64 r) ∧ (0 ≤ r ↔ s.any badCh = true) ∧ Step [] [] w0 w' := by
 have hs : Step [] [] w0 w0 := Step.refl w0
 refine calls (n := 55) Tryz.func105 rfl rfl rfl ?_
 refine cQ <| cR <| wa rfl <| wZ <| cQ <| cQ <| cR <| wm rfl <| wV rfl (run_bF (run_strEq rfl rfl) (by decide)) <| wZ ?_
 repeat (first | refine cQ ?_ | refine cK ?_ | refine CW.condF rfl ?_)
 refine cR <| wm rfl <| wV rfl (run_lenStr underlying9 rfl) <| wV rfl (run_bF (run_eql rfl rfl) (by show ¬ ((2 : Nat) : Int) = 1; decide)) <| wZ ?_
 repeat (first | refine cQ ?_ | refine cK ?_ | refine CW.condF rfl ?_)
 refine cR <| wm rfl <| wV rfl (run_lenStr underlying9 rfl) ?_
 refine wE rfl (run_call en113 rfl rfl) (sua_spec _ _) ?_
 rintro e w ⟨rfl, hq⟩
 refine ⟨_, rfl, ?_⟩
 replace hs := hs.callE hq
 rw [decide_eq_false (by omega)]
 refine wZ ?_
 repeat (first | refine cQ ?_ | refine cK ?_ | refine CW.condF rfl ?_)
 refine cR <| wm rfl ?_
 refine WL.rangeS underlying9 rfl rfl hs (fun b45 w hs => ?_)
 refine wZ <| CW.block ?_
 refine CW.loop (fun m f w' => ∃ p, p ≤ s.length ∧ m = s.length - p ∧ NB s p ∧ Step [] [(b45, .stringIter ⟨⟨s⟩⟩ p)] w0 w' ∧ Holds f [(0, str s), (1, str [0, 47]), (45, .pointer (some ⟨b45, 0, none⟩))]) (m := s.length) ?_ ?_
 ·exact ⟨0, by omega, by omega, fun k h1 h2 => by omega, hs, rfl, rfl, rfl, trivial⟩
 ·rintro m f w ⟨p, hp, rfl, hn, hs, hf⟩
  have hobt := hf.chain
  obtain ⟨g, rfl⟩ := hobt
  by_cases he : p = s.length
  ·subst he
   refine cQ <| cR ?_
   refine WL.nextEnd rfl rfl hs (by omega) ?_
   refine wx rfl rfl rfl <| wZ ?_
   repeat (first | refine cQ ?_ | refine CW.exit ?_ | refine CW.condF rfl ?_)
   refine cR <| wa rfl <| wZ ?_
   refine CW.ret ?_
   refine fin_ret1 rfl ?_
   exact ⟨-1, rfl, by rw [hn.all (Nat.le_refl _)]; decide, hs.clear⟩
  ·have hlt : p < s.length := by omega
   by_cases ha : bAt s p < 128
   ·have hb := bAt_of hlt
    refine cQ <| cR ?_
    refine WL.nextS rfl rfl hs (by omega) (dec_ascii ha) (fun w hs => ?_)
    refine wx rfl rfl rfl <| wZ ?_
    repeat (first | refine cQ ?_ | refine CW.block ?_ | refine cK ?_ | refine CW.condT rfl ?_)
    refine cR <| wx rfl rfl rfl <| wx rfl rfl rfl <| wa rfl <| wa rfl <| wZ ?_
    by_cases hbad : badCh s[p] = true
    ·refine cQ <| cR <| wm rfl <| wm rfl ?_
     refine wE rfl (run_call en112 rfl rfl) (ir_spec _ _ _ (by omega) (by omega)) ?_
     rintro e w ⟨rfl, hq⟩
     refine ⟨_, rfl, ?_⟩
     refine wV rfl (run_bT (run_geq rfl rfl) (by rw [hb, Int.toNat_natCast, Nat.toUInt8_eq, UInt8.ofNat_toNat]; exact (ix2 _).2 hbad)) <| wZ ?_
     repeat (first | refine cQ ?_ | refine CW.condT rfl ?_)
     refine cR <| wm rfl <| wa rfl <| wZ ?_
     refine CW.ret ?_
     refine fin_ret1 rfl ?_
     have hany : s.any badCh = true := List.any_eq_true.2 ⟨_, List.getElem_mem hlt, hbad⟩
     exact ⟨p, rfl, by rw [hany]; simp, (hs.callE hq).clear⟩
    ·refine cQ <| cR <| wm rfl <| wm rfl ?_
     refine wE rfl (run_call en112 rfl rfl) (ir_spec _ _ _ (by omega) (by omega)) ?_
     rintro e w ⟨rfl, hq⟩
     refine ⟨_, rfl, ?_⟩
     refine wV rfl (run_bF (run_geq rfl rfl) (by rw [hb, Int.toNat_natCast, Nat.toUInt8_eq, UInt8.ofNat_toNat]; exact fun h => hbad ((ix2 _).1 h))) <| wZ ?_
     repeat (first | refine cK ?_ | refine CW.condF rfl ?_)
     refine (show _ ∧ _ from ⟨rfl, _, ?_, p + 1, by omega, rfl, ?_, hs.callE hq, rfl, rfl, rfl, trivial⟩)
     ·omega
     ·intro k h1 h2
      by_cases hk : k = p
      ·subst hk; simpa using hbad
      ·exact hn k h1 (by omega)
   ·have hobt := dec_wide hlt (by omega)
    obtain ⟨h1, h2, h3, h4, h5⟩ := hobt
    have hobt : ∃ c wd, Utf8.decode ⟨⟨s⟩⟩ p = (c, wd) := ⟨_, _, rfl⟩
    obtain ⟨c, wd, hd⟩ := hobt
    rw [hd] at h1 h2 h3 h4 h5
    simp only at h1 h2 h3 h4 h5
    refine cQ <| cR ?_
    refine WL.nextS rfl rfl hs (by omega) (hd) (fun w hs => ?_)
    refine wx rfl rfl rfl <| wZ ?_
    repeat (first | refine cQ ?_ | refine CW.block ?_ | refine cK ?_ | refine CW.condT rfl ?_)
    refine cR <| wx rfl rfl rfl <| wx rfl rfl rfl <| wa rfl <| wa rfl <| wZ <| cQ <| cR <| wm rfl <| wm rfl ?_
    refine wE rfl (run_call en112 rfl rfl) (idxRune_wide h1 h2 _) ?_
    rintro e w ⟨rfl, hq⟩
    refine ⟨_, rfl, ?_⟩
    refine wV rfl (run_bF (run_geq rfl rfl) (by decide)) <| wZ ?_
    repeat (first | refine cK ?_ | refine CW.condF rfl ?_)
    refine (show _ ∧ _ from ⟨rfl, _, ?_, p + wd, by omega, rfl, ?_, hs.callE hq, rfl, rfl, rfl, trivial⟩)
    ·omega
    ·intro k hk1 hk2
     by_cases hk : k < p
     ·exact hn k hk1 hk
     ·have := h5 (k - p) (by omega)
      rw [show p + (k - p) = k by omega, bAt_of hk1] at this
      have : ¬ badCh s[k] = true := fun h => by
       rcases (bad_iff _).1 h with h | h <;> rw [h] at this <;> revert this <;> decide
      simpa using this

theorem idxAny_iff : ∀ s : List UInt8, (0 ≤ Lib.indexAny s [0, 47]) ↔ s.any badCh = true
 | [] => by decide
 | b :: l => by
  have ih := idxAny_iff l
  have hc : ([0, 47] : List UInt8).contains b = badCh b := by
   have := bad_iff b
   cases hb : badCh b
   ·rw [hb] at this; simp at this ⊢; exact this
   ·rw [hb] at this; simp at this ⊢; exact this
  have hge := Lib.indexAny_ge [0, 47] l
  unfold Lib.indexAny
  rw [hc, List.any_cons]
  cases badCh b
  ·simp only [Bool.false_eq_true, if_false, Bool.false_or]
   rw [← ih]
   split
   ·rename_i h; simp at h; omega
   ·rename_i h; simp at h; omega
  ·simp

theorem idxAny_long {s : List UInt8} (hl : 8 < s.length) (hl2 : s.length ≤ 64) (w0 : World) : Calls Tryz.prog 105 #[str s, str [0, 47]] w0 fun e w' => ∃ r : Int, e = .returned (.int .i64 r) ∧ (0 ≤ r ↔ s.any badCh = true) ∧ Step [] [] w0 w' := by
 have hz : ∀ w, (zeroValue 172).run Tryz.prog w = .ok (.agg (Array.replicate 256 (.bool false))) w := by
  have h : (Tryz.prog.info? 172).map (fun i => (i.zero, i.size)) = some (some (.agg (Array.replicate 256 (.bool false))), 256) := by kernel_rfl
  intro w
  cases hi : Tryz.prog.info? 172 with
  | none => rw [hi] at h; cases h
  | some i =>
   rw [hi] at h
   simp at h
   simp [zeroValue, typeInfo, hi, h.1]
 refine (Tryz.strings_IndexAny_long hz ⟨⟨s⟩⟩ ⟨⟨[0, 47]⟩⟩ w0 (by decide) (by show 8 < s.length; exact hl) (by show s.length < _; omega) (by decide) ?_).mono ?_
 ·intro j b hj
  have hm : b ∈ ([0, 47] : List UInt8) := List.mem_of_getElem? hj
  simp at hm
  rcases hm with rfl | rfl <;> decide
 ·rintro e w' ⟨rfl, rfl⟩
  exact ⟨_, rfl, idxAny_iff s, (((Step.refl w0).alloc _).alloc _).clear⟩

theorem containsAny_spec {s : List UInt8} {b : Bool} (hl : s.length ≤ 64) (hb : s.any badCh = b) (w : World) : Calls Tryz.prog 94 #[str s, str [0, 47]] w (Ret0 (.bool b) w) := by
 have hs : Step [] [] w w := Step.refl w
 have hc : Calls Tryz.prog 105 #[str s, str [0, 47]] w fun e w' => ∃ r : Int, e = .returned (.int .i64 r) ∧ (0 ≤ r ↔ s.any badCh = true) ∧ Step [] [] w w' := by
  rcases Nat.lt_or_ge 8 s.length with h | h
  ·exact idxAny_long h hl w
  ·exact idxAny_short h w
 cases b
 ·refine calls (n := 9) Tryz.func94 rfl rfl rfl ?_
  refine cQ <| cR <| wa rfl <| wZ <| cQ <| cR <| wm rfl <| wm rfl ?_
  refine wE rfl (run_call en105 rfl rfl) (hc) ?_
  rintro e w ⟨r, rfl, hr, hq⟩
  refine ⟨_, rfl, ?_⟩
  refine wV rfl (run_bF (run_geq rfl rfl) (by exact fun h => by rw [hr.1 h] at hb; cases hb)) <| wa rfl <| wZ ?_
  refine CW.ret ?_
  refine fin_ret1 rfl ?_
  exact ⟨rfl, hs.callE hq⟩
 ·refine calls (n := 9) Tryz.func94 rfl rfl rfl ?_
  refine cQ <| cR <| wa rfl <| wZ <| cQ <| cR <| wm rfl <| wm rfl ?_
  refine wE rfl (run_call en105 rfl rfl) (hc) ?_
  rintro e w ⟨r, rfl, hr, hq⟩
  refine ⟨_, rfl, ?_⟩
  refine wV rfl (run_bT (run_geq rfl rfl) (by exact hr.2 hb)) <| wa rfl <| wZ ?_
  refine CW.ret ?_
  refine fin_ret1 rfl ?_
  exact ⟨rfl, hs.callE hq⟩
end Go.Gx
/-! PName -/
namespace Go.Gx
open Go.Proofs Go.Proofs.Tryz
set_option maxRecDepth 100000

theorem isName_spec {s : List UInt8} {b : Bool} (hb : isName s = b) (w : World) (hlen : s.length ≤ 9223372036854775807) : Calls Tryz.prog 71 #[str s] w (Ret0 (.bool b) w) := by
 have hs : Step [] [] w w := Step.refl w
 by_cases h1 : 1 ≤ s.length
 ·by_cases h2 : s.length ≤ 64
  ·by_cases h3 : s = [46]
   ·obtain rfl : b = false := by rw [← hb]; simp [isName, h3]
    refine calls (n := 24) Tryz.func71 rfl rfl rfl ?_
    refine cQ <| cR <| wa rfl <| wZ <| cQ <| cR <| wm rfl <| wV rfl (run_lenStr underlying9 rfl) <| wV rfl (run_bT (run_geq rfl rfl) (by omega)) <| wm rfl <| WL.yes rfl rfl rfl <| wm rfl <| WL.yes rfl rfl rfl <| wV rfl (run_lenStr underlying9 rfl) <| WL.yes rfl rfl rfl <| wV rfl (run_bT (run_leq rfl rfl) (by omega)) <| wV rfl (run_pickT rfl) <| wm rfl <| WL.yes rfl rfl rfl <| wm rfl <| WL.yes rfl rfl rfl <| wV rfl (run_bF (run_strNe rfl rfl) (by simp [h3])) <| wV rfl (run_pickT rfl) <| wm rfl <| WL.no rfl rfl rfl (.inl rfl) <| WL.no rfl rfl rfl (.inl rfl) <| wV rfl (run_pickF rfl) <| wm rfl <| WL.no rfl rfl rfl (.inl rfl) <| WL.no rfl rfl rfl (.inl rfl) <| WL.no rfl rfl rfl (.inl rfl) <| wV rfl (run_pickF rfl) <| wa rfl <| wZ ?_
    refine CW.ret ?_
    refine fin_ret1 rfl ?_
    exact ⟨rfl, hs⟩
   ·by_cases h4 : s = [46, 46]
    ·obtain rfl : b = false := by rw [← hb]; simp [isName, h4]
     refine calls (n := 24) Tryz.func71 rfl rfl rfl ?_
     refine cQ <| cR <| wa rfl <| wZ <| cQ <| cR <| wm rfl <| wV rfl (run_lenStr underlying9 rfl) <| wV rfl (run_bT (run_geq rfl rfl) (by omega)) <| wm rfl <| WL.yes rfl rfl rfl <| wm rfl <| WL.yes rfl rfl rfl <| wV rfl (run_lenStr underlying9 rfl) <| WL.yes rfl rfl rfl <| wV rfl (run_bT (run_leq rfl rfl) (by omega)) <| wV rfl (run_pickT rfl) <| wm rfl <| WL.yes rfl rfl rfl <| wm rfl <| WL.yes rfl rfl rfl <| wV rfl (run_bT (run_strNe rfl rfl) (by exact h3)) <| wV rfl (run_pickT rfl) <| wm rfl <| WL.yes rfl rfl rfl <| wm rfl <| WL.yes rfl rfl rfl <| wV rfl (run_bF (run_strNe rfl rfl) (by simp [h4])) <| wV rfl (run_pickT rfl) <| wm rfl <| WL.no rfl rfl rfl (.inl rfl) <| WL.no rfl rfl rfl (.inl rfl) <| WL.no rfl rfl rfl (.inl rfl) <| wV rfl (run_pickF rfl) <| wa rfl <| wZ ?_
     refine CW.ret ?_
     refine fin_ret1 rfl ?_
     exact ⟨rfl, hs⟩
    ·obtain rfl : b = !s.any badCh := by rw [← hb]; simp [isName, h1, h2, h3, h4]
     refine calls (n := 24) Tryz.func71 rfl rfl rfl ?_
     refine cQ <| cR <| wa rfl <| wZ <| cQ <| cR <| wm rfl <| wV rfl (run_lenStr underlying9 rfl) <| wV rfl (run_bT (run_geq rfl rfl) (by omega)) <| wm rfl <| WL.yes rfl rfl rfl <| wm rfl <| WL.yes rfl rfl rfl <| wV rfl (run_lenStr underlying9 rfl) <| WL.yes rfl rfl rfl <| wV rfl (run_bT (run_leq rfl rfl) (by omega)) <| wV rfl (run_pickT rfl) <| wm rfl <| WL.yes rfl rfl rfl <| wm rfl <| WL.yes rfl rfl rfl <| wV rfl (run_bT (run_strNe rfl rfl) (by exact h3)) <| wV rfl (run_pickT rfl) <| wm rfl <| WL.yes rfl rfl rfl <| wm rfl <| WL.yes rfl rfl rfl <| wV rfl (run_bT (run_strNe rfl rfl) (by exact h4)) <| wV rfl (run_pickT rfl) <| wm rfl <| WL.yes rfl rfl rfl <| wm rfl <| WL.yes rfl rfl rfl ?_
     refine wE rfl (run_call en94 rfl rfl) (containsAny_spec h2 rfl _) ?_
     rintro e w ⟨rfl, hq⟩
     refine ⟨_, rfl, ?_⟩
     refine WL.yes rfl rfl rfl <| wV rfl (run_not rfl) <| wV rfl (run_pickT rfl) <| wa rfl <| wZ ?_
     refine CW.ret ?_
     refine fin_ret1 rfl ?_
     exact ⟨rfl, hs.callE hq⟩
  ·obtain rfl : b = false := by rw [← hb]; simp [isName, h2]
   refine calls (n := 24) Tryz.func71 rfl rfl rfl ?_
   refine cQ <| cR <| wa rfl <| wZ <| cQ <| cR <| wm rfl <| wV rfl (run_lenStr underlying9 rfl) <| wV rfl (run_bT (run_geq rfl rfl) (by omega)) <| wm rfl <| WL.yes rfl rfl rfl <| wm rfl <| WL.yes rfl rfl rfl <| wV rfl (run_lenStr underlying9 rfl) <| WL.yes rfl rfl rfl <| wV rfl (run_bF (run_leq rfl rfl) (by omega)) <| wV rfl (run_pickT rfl) <| wm rfl <| WL.no rfl rfl rfl (.inl rfl) <| WL.no rfl rfl rfl (.inl rfl) <| wV rfl (run_pickF rfl) <| wm rfl <| WL.no rfl rfl rfl (.inl rfl) <| WL.no rfl rfl rfl (.inl rfl) <| wV rfl (run_pickF rfl) <| wm rfl <| WL.no rfl rfl rfl (.inl rfl) <| WL.no rfl rfl rfl (.inl rfl) <| WL.no rfl rfl rfl (.inl rfl) <| wV rfl (run_pickF rfl) <| wa rfl <| wZ ?_
   refine CW.ret ?_
   refine fin_ret1 rfl ?_
   exact ⟨rfl, hs⟩
 ·obtain rfl : b = false := by rw [← hb]; simp [isName, h1]
  refine calls (n := 24) Tryz.func71 rfl rfl rfl ?_
  refine cQ <| cR <| wa rfl <| wZ <| cQ <| cR <| wm rfl <| wV rfl (run_lenStr underlying9 rfl) <| wV rfl (run_bF (run_geq rfl rfl) (by omega)) <| wm rfl <| WL.no rfl rfl rfl (.inl rfl) <| WL.no rfl rfl rfl (.inl rfl) <| WL.no rfl rfl rfl (.inl rfl) <| wV rfl (run_pickF rfl) <| wm rfl <| WL.no rfl rfl rfl (.inl rfl) <| WL.no rfl rfl rfl (.inl rfl) <| wV rfl (run_pickF rfl) <| wm rfl <| WL.no rfl rfl rfl (.inl rfl) <| WL.no rfl rfl rfl (.inl rfl) <| wV rfl (run_pickF rfl) <| wm rfl <| WL.no rfl rfl rfl (.inl rfl) <| WL.no rfl rfl rfl (.inl rfl) <| WL.no rfl rfl rfl (.inl rfl) <| wV rfl (run_pickF rfl) <| wa rfl <| wZ ?_
  refine CW.ret ?_
  refine fin_ret1 rfl ?_
  exact ⟨rfl, hs⟩
theorem refIsName_spec {s : List UInt8} {b : Bool} (hb : isName s = b) (w : World) (hlen : s.length ≤ 9223372036854775807) : Calls Tryz.prog 90 #[str s] w (Ret0 (.bool b) w) := by
 have hs : Step [] [] w w := Step.refl w
 by_cases h1 : 1 ≤ s.length
 ·by_cases h2 : s.length ≤ 64
  ·by_cases h3 : s = [46]
   ·obtain rfl : b = false := by rw [← hb]; simp [isName, h3]
    refine calls (n := 36) Tryz.func90 rfl rfl rfl ?_
    refine cQ <| cR <| wa rfl <| wZ <| cQ <| cQ <| cR <| wm rfl <| wV rfl (run_lenStr underlying9 rfl) <| wV rfl (run_bF (run_lss rfl rfl) (by omega)) <| wm rfl <| WL.yes rfl rfl rfl <| wm rfl <| WL.yes rfl rfl rfl <| wV rfl (run_lenStr underlying9 rfl) <| WL.yes rfl rfl rfl <| wV rfl (run_bF (run_gtr rfl rfl) (by omega)) <| wV rfl (run_pickF rfl) <| wm rfl <| WL.yes rfl rfl rfl <| wm rfl <| WL.yes rfl rfl rfl <| wV rfl (run_bT (run_strEq rfl rfl) (by exact h3)) <| wV rfl (run_pickF rfl) <| wm rfl <| WL.no rfl rfl rfl (.inl rfl) <| WL.no rfl rfl rfl (.inl rfl) <| wV rfl (run_pickT rfl) <| wZ ?_
    repeat (first | refine cQ ?_ | refine CW.condT rfl ?_)
    refine cR <| wa rfl <| wZ ?_
    refine CW.ret ?_
    refine fin_ret1 rfl ?_
    exact ⟨rfl, hs⟩
   ·by_cases h4 : s = [46, 46]
    ·obtain rfl : b = false := by rw [← hb]; simp [isName, h4]
     refine calls (n := 36) Tryz.func90 rfl rfl rfl ?_
     refine cQ <| cR <| wa rfl <| wZ <| cQ <| cQ <| cR <| wm rfl <| wV rfl (run_lenStr underlying9 rfl) <| wV rfl (run_bF (run_lss rfl rfl) (by omega)) <| wm rfl <| WL.yes rfl rfl rfl <| wm rfl <| WL.yes rfl rfl rfl <| wV rfl (run_lenStr underlying9 rfl) <| WL.yes rfl rfl rfl <| wV rfl (run_bF (run_gtr rfl rfl) (by omega)) <| wV rfl (run_pickF rfl) <| wm rfl <| WL.yes rfl rfl rfl <| wm rfl <| WL.yes rfl rfl rfl <| wV rfl (run_bF (run_strEq rfl rfl) (by exact h3)) <| wV rfl (run_pickF rfl) <| wm rfl <| WL.yes rfl rfl rfl <| wm rfl <| WL.yes rfl rfl rfl <| wV rfl (run_bT (run_strEq rfl rfl) (by exact h4)) <| wV rfl (run_pickF rfl) <| wZ ?_
     repeat (first | refine cQ ?_ | refine CW.condT rfl ?_)
     refine cR <| wa rfl <| wZ ?_
     refine CW.ret ?_
     refine fin_ret1 rfl ?_
     exact ⟨rfl, hs⟩
    ·have e : isName s = !s.any badCh := by simp [isName, h1, h2, h3, h4]
     refine calls (n := 36) Tryz.func90 rfl rfl rfl ?_
     refine cQ <| cR <| wa rfl <| wZ <| cQ <| cQ <| cR <| wm rfl <| wV rfl (run_lenStr underlying9 rfl) <| wV rfl (run_bF (run_lss rfl rfl) (by omega)) <| wm rfl <| WL.yes rfl rfl rfl <| wm rfl <| WL.yes rfl rfl rfl <| wV rfl (run_lenStr underlying9 rfl) <| WL.yes rfl rfl rfl <| wV rfl (run_bF (run_gtr rfl rfl) (by omega)) <| wV rfl (run_pickF rfl) <| wm rfl <| WL.yes rfl rfl rfl <| wm rfl <| WL.yes rfl rfl rfl <| wV rfl (run_bF (run_strEq rfl rfl) (by exact h3)) <| wV rfl (run_pickF rfl) <| wm rfl <| WL.yes rfl rfl rfl <| wm rfl <| WL.yes rfl rfl rfl <| wV rfl (run_bF (run_strEq rfl rfl) (by exact h4)) <| wV rfl (run_pickF rfl) <| wZ ?_
     repeat (first | refine cQ ?_ | refine cK ?_ | refine CW.condF rfl ?_)
     refine cR <| wa rfl <| wZ <| CW.block ?_
     refine CW.loop (fun m f w' => ∃ i, i ≤ s.length ∧ m = s.length - i ∧ Step [] [] w w' ∧ (s.take i).any badCh = false ∧ Holds f [(0, str s), (3, .int .i64 i)]) (m := s.length) ?_ ?_
     ·exact ⟨0, by omega, by omega, hs, rfl, rfl, rfl, trivial⟩
     ·rintro m f w ⟨i, hi, rfl, hs, hn, hf⟩
      have hobt := hf.chain
      obtain ⟨g, rfl⟩ := hobt
      refine cQ <| cQ <| cR <| wm rfl <| wm rfl <| wV rfl (run_lenStr underlying9 rfl) <| wV rfl (run_lss rfl rfl) <| wZ ?_
      refine cP rfl (fun h => ?_) (fun h => ?_)
      ·have hlt : i < s.length := by omega
       have hc : s[i]? = some s[i] := List.getElem?_eq_getElem hlt
       have hany : badCh s[i] = true → s.any badCh = true := fun h => List.any_eq_true.2 ⟨_, List.getElem_mem hlt, h⟩
       by_cases hc0 : s[i] = 0
       ·repeat (first | refine cQ ?_ | refine CW.block ?_ | refine cK ?_)
        refine cR <| wm rfl <| wm rfl <| wV rfl (run_strIdx underlying9 rfl rfl (hc)) <| wV rfl (run_bT (run_eql rfl rfl) (by rw [hc0]; rfl)) <| wm rfl <| WL.no rfl rfl rfl (.inl rfl) <| WL.no rfl rfl rfl (.inl rfl) <| WL.no rfl rfl rfl (.inl rfl) <| WL.no rfl rfl rfl (.inl rfl) <| wV rfl (run_pickT rfl) <| wZ ?_
        repeat (first | refine cQ ?_ | refine CW.condT rfl ?_)
        refine cR <| wa rfl <| wZ ?_
        refine CW.ret ?_
        refine fin_ret1 rfl ?_
        obtain rfl : b = false := by rw [← hb, e, hany (by simp [badCh, hc0])]; rfl
        exact ⟨rfl, hs⟩
       ·have hz : ¬ ((s[i].toNat : Int) = 0) := fun h => hc0 (UInt8.toNat_inj.1 (by simpa using h))
        by_cases hc1 : s[i] = 47
        ·repeat (first | refine cQ ?_ | refine CW.block ?_ | refine cK ?_)
         refine cR <| wm rfl <| wm rfl <| wV rfl (run_strIdx underlying9 rfl rfl (hc)) <| wV rfl (run_bF (run_eql rfl rfl) (by exact hz)) <| wm rfl <| WL.yes rfl rfl rfl <| wm rfl <| WL.yes rfl rfl rfl <| wm rfl <| WL.yes rfl rfl rfl <| wV rfl (run_strIdx underlying9 rfl rfl (hc)) ?_
         refine WL.yes rfl rfl rfl <| wV rfl (run_bT (run_eql rfl rfl) (by rw [hc1]; rfl)) <| wV rfl (run_pickF rfl) <| wZ ?_
         repeat (first | refine cQ ?_ | refine CW.condT rfl ?_)
         refine cR <| wa rfl <| wZ ?_
         refine CW.ret ?_
         refine fin_ret1 rfl ?_
         obtain rfl : b = false := by rw [← hb, e, hany (by simp [badCh, hc1])]; rfl
         exact ⟨rfl, hs⟩
        ·have hz1 : ¬ ((s[i].toNat : Int) = 47) := fun h => hc1 (UInt8.toNat_inj.1 (by simpa using (show s[i].toNat = 47 by omega)))
         repeat (first | refine cQ ?_ | refine CW.block ?_ | refine cK ?_)
         refine cR <| wm rfl <| wm rfl <| wV rfl (run_strIdx underlying9 rfl rfl (hc)) <| wV rfl (run_bF (run_eql rfl rfl) (by exact hz)) <| wm rfl <| WL.yes rfl rfl rfl <| wm rfl <| WL.yes rfl rfl rfl <| wm rfl <| WL.yes rfl rfl rfl <| wV rfl (run_strIdx underlying9 rfl rfl (hc)) <| WL.yes rfl rfl rfl <| wV rfl (run_bF (run_eql rfl rfl) (by exact hz1)) <| wV rfl (run_pickF rfl) <| wZ ?_
         repeat (first | refine cK ?_ | refine CW.condF rfl ?_)
         refine cR <| wm rfl <| wV rfl (run_add (c := ((i + 1 : Nat) : Int)) rfl rfl (by omega) (by omega)) <| wa rfl <| wZ ?_
         refine (show _ ∧ _ from ⟨rfl, _, ?_, i + 1, by omega, rfl, hs, ?_, rfl, rfl, trivial⟩)
         ·omega
         ·rw [List.take_succ_eq_append_getElem hlt, List.any_append, hn]
          simp [badCh, hc0, hc1]
      ·repeat (first | refine cQ ?_ | refine CW.exit ?_)
       refine cR <| wa rfl <| wZ ?_
       refine CW.ret ?_
       refine fin_ret1 rfl ?_
       obtain rfl : i = s.length := by omega
       rw [List.take_length] at hn
       obtain rfl : b = true := by rw [← hb, e, hn]; rfl
       exact ⟨rfl, hs⟩
  ·obtain rfl : b = false := by rw [← hb]; simp [isName, h2]
   refine calls (n := 36) Tryz.func90 rfl rfl rfl ?_
   refine cQ <| cR <| wa rfl <| wZ <| cQ <| cQ <| cR <| wm rfl <| wV rfl (run_lenStr underlying9 rfl) <| wV rfl (run_bF (run_lss rfl rfl) (by omega)) <| wm rfl <| WL.yes rfl rfl rfl <| wm rfl <| WL.yes rfl rfl rfl <| wV rfl (run_lenStr underlying9 rfl) <| WL.yes rfl rfl rfl <| wV rfl (run_bT (run_gtr rfl rfl) (by omega)) <| wV rfl (run_pickF rfl) <| wm rfl <| WL.no rfl rfl rfl (.inl rfl) <| WL.no rfl rfl rfl (.inl rfl) <| wV rfl (run_pickT rfl) <| wm rfl <| WL.no rfl rfl rfl (.inl rfl) <| WL.no rfl rfl rfl (.inl rfl) <| wV rfl (run_pickT rfl) <| wZ ?_
   repeat (first | refine cQ ?_ | refine CW.condT rfl ?_)
   refine cR <| wa rfl <| wZ ?_
   refine CW.ret ?_
   refine fin_ret1 rfl ?_
   exact ⟨rfl, hs⟩
 ·obtain rfl : b = false := by rw [← hb]; simp [isName, h1]
  refine calls (n := 36) Tryz.func90 rfl rfl rfl ?_
  refine cQ <| cR <| wa rfl <| wZ <| cQ <| cQ <| cR <| wm rfl <| wV rfl (run_lenStr underlying9 rfl) <| wV rfl (run_bT (run_lss rfl rfl) (by omega)) <| wm rfl <| WL.no rfl rfl rfl (.inl rfl) <| WL.no rfl rfl rfl (.inl rfl) <| WL.no rfl rfl rfl (.inl rfl) <| wV rfl (run_pickT rfl) <| wm rfl <| WL.no rfl rfl rfl (.inl rfl) <| WL.no rfl rfl rfl (.inl rfl) <| wV rfl (run_pickT rfl) <| wm rfl <| WL.no rfl rfl rfl (.inl rfl) <| WL.no rfl rfl rfl (.inl rfl) <| wV rfl (run_pickT rfl) <| wZ ?_
  repeat (first | refine cQ ?_ | refine CW.condT rfl ?_)
  refine cR <| wa rfl <| wZ ?_
  refine CW.ret ?_
  refine fin_ret1 rfl ?_
  exact ⟨rfl, hs⟩
theorem cmp_lt : ∀ a b : List UInt8, Lib.compareBytes a b < 0 ↔ Op.bytesLess a b = true
 | [], [] => by simp [Lib.compareBytes, Op.bytesLess]
 | [], _ :: _ => by simp [Lib.compareBytes, Op.bytesLess]
 | _ :: _, [] => by simp [Lib.compareBytes, Op.bytesLess]
 | a :: x, b :: y => by
  have ih := cmp_lt x y
  unfold Lib.compareBytes
  by_cases h : a < b
  ·simp [h, Op.bytesLess]
  ·by_cases h2 : b < a
   ·have hne : ¬ a = b := fun e => by subst e; exact UInt8.lt_irrefl _ h2
    simp [h, h2, Op.bytesLess, hne]
   ·have : a = b := UInt8.toNat_inj.1 (by have h3 := UInt8.not_lt.1 h; have h4 := UInt8.not_lt.1 h2; exact Nat.le_antisymm (UInt8.le_iff_toNat_le.1 h4) (UInt8.le_iff_toNat_le.1 h3))
    subst this
    simp [Op.bytesLess, UInt8.lt_irrefl, ih]
theorem cmp_eq0 : ∀ a b : List UInt8, Lib.compareBytes a b = 0 ↔ a = b
 | [], [] => by simp [Lib.compareBytes]
 | [], _ :: _ => by simp [Lib.compareBytes]
 | _ :: _, [] => by simp [Lib.compareBytes]
 | a :: x, b :: y => by
  have ih := cmp_eq0 x y
  unfold Lib.compareBytes
  by_cases h : a < b
  ·have hne : ¬ a = b := fun e => by subst e; exact UInt8.lt_irrefl _ h
   simp [h, hne]
  ·by_cases h2 : b < a
   ·have hne : ¬ a = b := fun e => by subst e; exact UInt8.lt_irrefl _ h2
    simp [h, h2, hne]
   ·have : a = b := UInt8.toNat_inj.1 (by have h3 := UInt8.not_lt.1 h; have h4 := UInt8.not_lt.1 h2; exact Nat.le_antisymm (UInt8.le_iff_toNat_le.1 h4) (UInt8.le_iff_toNat_le.1 h3))
    subst this
    simp [UInt8.lt_irrefl, ih]
end Go.Gx
/-! PSplit -/
namespace Go.Gx

/-- A text parted at each slash. -/
def splitL : List UInt8 → List (List UInt8)
 | [] => [[]]
 | c :: s => if c = 47 then [] :: splitL s else match splitL s with
  | [] => [[c]]
  | p :: ps => (c :: p) :: ps
/-- A text's parts: of the empty one there are none. -/
def partsL (s : List UInt8) : List (List UInt8) := if s = [] then [] else splitL s

theorem splitL_ne : ∀ s, splitL s ≠ []
 | [] => by simp [splitL]
 | c :: s => by
  rw [splitL]
  split
  ·simp
  ·split <;> simp
theorem splitL_none : ∀ {s : List UInt8}, 47 ∉ s → splitL s = [s]
 | [], _ => rfl
 | c :: s, h => by
  simp only [List.mem_cons, not_or] at h
  rw [splitL, if_neg (fun e => h.1 e.symm), splitL_none h.2]
theorem splitL_hit {b : List UInt8} : ∀ {a : List UInt8}, 47 ∉ a → splitL (a ++ 47 :: b) = a :: splitL b
 | [], _ => by simp [splitL]
 | c :: a, h => by
  simp only [List.mem_cons, not_or] at h
  rw [List.cons_append, splitL, if_neg (fun e => h.1 e.symm), splitL_hit h.2]

def slashB : ByteArray := ⟨#[47]⟩
theorem ext_take (s : List UInt8) (i : Nat) : (ByteArray.mk ⟨s⟩).extract 0 i = ⟨⟨s.take i⟩⟩ := by
 apply ByteArray.ext
 rw [ByteArray.data_extract]
 simp
theorem ext_drop (s : List UInt8) (i : Nat) : (ByteArray.mk ⟨s⟩).extract i (ByteArray.mk ⟨s⟩).size = ⟨⟨s.drop i⟩⟩ := by
 apply ByteArray.ext
 rw [ByteArray.data_extract]
 have : (ByteArray.mk ⟨s⟩).size = s.length := rfl
 rw [this]
 apply Array.ext'
 simp [List.take_of_length_le]

open Go.Lib in
theorem split_eq : ∀ (n : Nat) (s : List UInt8), s.length ≤ n → splitB slashB 0 (countB ⟨⟨s⟩⟩ slashB) ⟨⟨s⟩⟩ = (splitL s).map (fun l => ByteArray.mk ⟨l⟩) ∧ countB ⟨⟨s⟩⟩ slashB + 1 = (splitL s).length
 | n, s, hn => by
  have hone : indexB ⟨⟨s⟩⟩ slashB = indexByte s 47 := Go.Lib.one ⟨⟨s⟩⟩ slashB rfl
  rcases indexB_cases ⟨⟨s⟩⟩ slashB with h | ⟨i, h, hi⟩
  ·have hno : 47 ∉ s := fun hm => by
    have hobt := List.mem_iff_getElem.1 hm
    obtain ⟨k, hk, he⟩ := hobt
    rw [h] at hone
    exact indexByte_none hone.symm k (by rw [List.getElem?_eq_getElem hk, he])
   rw [countB_miss _ _ h, splitB_miss _ _ _ _ h, splitL_none hno]
   exact ⟨rfl, rfl⟩
  ·have hs := indexByte_some (hone.symm.trans h)
   have hlt : i < s.length := (List.getElem?_eq_some_iff.1 hs.1).1
   have hgi : s[i] = 47 := (List.getElem?_eq_some_iff.1 hs.1).2
   have hna : 47 ∉ s.take i := fun hm => by
    have hobt := List.mem_iff_getElem.1 hm
    obtain ⟨k, hk, he⟩ := hobt
    rw [List.length_take] at hk
    rw [List.getElem_take] at he
    exact hs.2 k (by omega) (by rw [List.getElem?_eq_getElem (by omega), he])
   have e : s = s.take i ++ 47 :: s.drop (i + 1) := by
    rw [← hgi, ← List.drop_eq_getElem_cons hlt, List.take_append_drop]
   have hsz : slashB.size = 1 := rfl
   have hc := countB_hit ⟨⟨s⟩⟩ slashB i (by rw [hsz]; exact Nat.le_refl 1) h
   rw [hsz, ext_drop] at hc
   have ih := split_eq (n - 1) (s.drop (i + 1)) (by rw [List.length_drop]; omega)
   have hsl : splitL s = s.take i :: splitL (s.drop (i + 1)) := by
    conv => lhs; rw [e]
    exact splitL_hit hna
   rw [hc, Nat.add_comm 1, splitB_hit _ _ _ _ i h, hsz, ext_drop, Nat.add_zero, ext_take, ih.1, hsl]
   refine ⟨rfl, ?_⟩
   rw [List.length_cons, ih.2]
 termination_by n s => s.length
 decreasing_by
  simp only [List.length_drop]
  omega
end Go.Gx
/-! PrimB -/
namespace Go.Gx

section
variable {P : Program} {f : Slots} {w : World} {d : Option Tmp} {ty : TypeId} {pos : String} {af : Array Edge} {x y : Operand} {T T' E : TypeId}
end

section
variable {P : Program} {ops : Array Oper} {Q : Post} {n : Nat} {rest : List Oper} {f : Slots} {ds : List Deferred} {w w0 : World} {ty : TypeId} {pos : String} {af : Array Edge} {x y : Operand} {T T' E : TypeId} {d : Nat} {S : List Nat} {L : List (Nat × Obj)}

/-- append(v, make([]T, m)...) where v has not the room. -/
theorem WL.appendZ {agg : Bool} {sz bytes k m cap : Nat} {zs xs : List Value} {a : Option Addr} {kn : IntKind} (ht : P.underlying T = some (.slice E)) (ht' : P.underlying T' = some (.int kn)) (hE : Ty P E agg sz bytes zs) (hzl : zs.length = sz) (hb0 : 0 < bytes)
  (hx : ev f x = .slice a k cap) (hy : ev f y = .int .i64 m) (hold : Sl w sz (.slice a k cap) k xs) (hs : Step S L w0 w) (hfit : cap < k + m) (hroom : (k + m) * bytes ≤ 140737488355328) (hd : Nat.blt d n = true)
  (h : ∀ v' Lv' w', OwnSl E sz v' (k + m) (xs ++ (List.replicate m zs).flatten) Lv' → Step S (Lv' ++ L) w0 w' → WL P ops Q n rest (upd f d v') ds w') :
  WL P ops Q n (⟨some d, .call { callee := .builtin .append, args := #[x, y], argTypes := #[T, T'] }, ty, pos, af, none⟩ :: rest) f ds w := by
 have hobt := hE.info
 obtain ⟨i, z0, hi, hsz, hby, hz0, hc0, _⟩ := hobt
 have hn : ¬ (k + m ≤ cap) := by omega
 have hkm : (k + m) * 1 ≤ (k + m) * bytes := Nat.mul_le_mul_left _ hb0
 have h63' : ¬ (9223372036854775807 < ((k : Int) + (m : Int))) := by omega
 have h48' : ¬ (281474976710656 < Builtin.nextslicecap (k + m) cap * i.bytes) := by
  rw [hby]
  have := growslice_fits (old := cap) (bytes := bytes) (need := k + m) (by omega) hroom
  omega
 have hwm : IntKind.i64.wrap (m : Int) = m := wrap_i64 (by omega)
 have hm48 : ¬ (281474976710656 < (m : Int) * (i.bytes : Int)) := by
  rw [hby]
  have h1 : m * bytes ≤ (k + m) * bytes := Nat.mul_le_mul_right _ (by omega)
  have h2 : ((m * bytes : Nat) : Int) ≤ ((140737488355328 : Nat) : Int) := Int.ofNat_le.2 (Nat.le_trans h1 hroom)
  rw [Int.natCast_mul] at h2
  omega
 have hmneg : ¬ ((m : Int) < 0) := by omega
 have hzc : ∀ j, Builtin.zeroCells z0.cells j = ((List.replicate j zs).flatten).toArray := fun j => by
  rw [hc0]
  have := zero_row zs j
  simpa [Builtin.zeroCells] using this
 have hblk : ∀ l : List Value, Obj.cells l.toArray E = blk E l := fun l => rfl
 have hod := run_firstCells_drew (P := P) hold
 have hxl := hold.1
 have hle : k + m ≤ grownCap w (k + m) cap E := by unfold grownCap Question.cut; exact Nat.le_add_right _ _
 have hr : (Builtin.append_ #[T, T'] ty #[.slice a k cap, .int .i64 m]).run P w = .ok (.slice (some ⟨w.heap.size, 0, none⟩) (k + m) (grownCap w (k + m) cap E)) (w.drew.alloc (blk E (xs ++ (List.replicate m zs).flatten ++ (List.replicate (grownCap w (k + m) cap E - (k + m)) zs).flatten))) := by
  by_cases h0 : m * sz = 0
  ·have hfl : (List.replicate m zs).flatten = [] := by
    apply List.eq_nil_of_length_eq_zero
    simp only [List.length_flatten, List.map_replicate, List.sum_replicate_nat, hzl, h0]
   rw [hfl]
   subst hsz
   simp [Builtin.append_, run_underlying ht, run_underlying ht', sizeOf, typeInfo, zeroValue, hi, hz0, hn, h63', h48', Question.forced, hod, newRow, grownCap, hzc, hblk, asInt, asIntOf, hwm, hm48, hmneg, h0]
  ·subst hsz
   simp [Builtin.append_, run_underlying ht, run_underlying ht', sizeOf, typeInfo, zeroValue, hi, hz0, hn, h63', h48', Question.forced, hod, newRow, grownCap, hzc, hblk, asInt, asIntOf, hwm, hm48, hmneg, h0]
 refine wV hd (v := .slice (some ⟨w.heap.size, 0, none⟩) (k + m) (grownCap w (k + m) cap E)) (w' := w.drew.alloc (blk E (xs ++ (List.replicate m zs).flatten ++ (List.replicate (grownCap w (k + m) cap E - (k + m)) zs).flatten))) ?_ (h _ [(w.heap.size, _)] _ ⟨?_, .inr ⟨_, _, _, rfl, rfl, ?_⟩⟩ (hs.drew.alloc _))
 ·simp [execOp, hx, hy, resolve, invoke, builtin, hr]
 ·simp [hxl, hzl, Nat.add_mul]
 ·simp only [List.length_append, List.length_flatten, List.map_replicate, List.sum_replicate_nat, hxl, hzl, ← Nat.add_mul]
  congr 1
  omega

end
end Go.Gx
/-! PParts -/
namespace Go.Gx
open Go.Proofs Go.Proofs.Tryz
set_option maxRecDepth 100000

/-- The library's one int variable that a road reads holds an int. -/
def Gl (w : World) : Prop := ∃ m : Int, w.cell? ⟨0, 0, none⟩ = some (.int .i64 m)
theorem Gl.step {L : List (Nat × Obj)} {w w' : World} (h : Gl w) (hs : Step [] L w w') : Gl w' := by
 obtain ⟨m, hm⟩ := h
 refine ⟨m, ?_⟩
 have hlt : 0 < w.heap.size := by
  unfold World.cell? at hm
  split at hm
  ·rename_i hb; exact lt_of_get hb
  ·cases hm
 rw [cell_of_heap (hs.chg.block 0 hlt (by simp))]
 exact hm

theorem split_spec {s : List UInt8} (w0 : World) (hg : Gl w0) (hs1 : s.length < 4294967281) : Calls Tryz.prog 87 #[str s, str [47]] w0 fun e w' => ∃ u Lu, e = .returned u ∧ OwnSl 9 1 u (splitL s).length (strs (splitL s)) Lu ∧ Step [] Lu w0 w' := by
 obtain ⟨m, hm⟩ := hg
 have h := Tryz.strings_Split ⟨⟨s⟩⟩ slashB m w0 hs1 hm (Nat.le_refl 1)
 have hobt := split_eq s.length s (Nat.le_refl _)
 obtain ⟨e1, e2⟩ := hobt
 rw [e1, e2] at h
 refine h.mono fun e w' ⟨h1, h2⟩ => ?_
 have hst := (Step.refl w0).alloc (blk 9 (strs (splitL s)))
 have he : (List.map (fun l => ByteArray.mk ⟨l⟩) (splitL s)).map Value.string = strs (splitL s) := by simp [strs, str]
 rw [he] at h2
 subst h2
 exact ⟨_, _, h1, OwnSl.mk (by rw [strs_len, Nat.mul_one]), hst⟩

theorem parts_spec {s : List UInt8} (w0 : World) (hg : Gl w0) (hs1 : s.length < 4294967281) : Calls Tryz.prog 56 #[str s] w0 fun e w' => ∃ u Lu, e = .returned u ∧ OwnSl 9 1 u (partsL s).length (strs (partsL s)) Lu ∧ Step [] Lu w0 w' := by
 have hs : Step [] [] w0 w0 := Step.refl w0
 by_cases h0 : s = []
 ·have e : partsL s = [] := if_pos h0
  rw [e]
  refine calls (n := 7) Tryz.func56 rfl rfl rfl ?_
  refine cQ <| cR <| wa rfl <| wZ <| cQ <| cQ <| cR <| wm rfl <| wV rfl (run_bT (run_strEq rfl rfl) (by exact h0)) <| wZ ?_
  repeat (first | refine cQ ?_ | refine CW.condT rfl ?_)
  refine cR <| wa rfl <| wZ ?_
  refine CW.ret ?_
  refine fin_ret1 rfl ?_
  exact ⟨_, _, rfl, .nil _ _, hs⟩
 ·have e : partsL s = splitL s := if_neg h0
  rw [e]
  refine calls (n := 7) Tryz.func56 rfl rfl rfl ?_
  refine cQ <| cR <| wa rfl <| wZ <| cQ <| cQ <| cR <| wm rfl <| wV rfl (run_bF (run_strEq rfl rfl) (by exact h0)) <| wZ ?_
  repeat (first | refine cQ ?_ | refine cK ?_ | refine CW.condF rfl ?_)
  refine cR <| wm rfl ?_
  refine wE rfl (run_call en87 rfl rfl) (split_spec _ hg hs1) ?_
  rintro e w ⟨u, Lu, rfl, hu, hq⟩
  refine ⟨_, rfl, ?_⟩
  refine wa rfl <| wZ ?_
  refine CW.ret ?_
  refine fin_ret1 rfl ?_
  exact ⟨u, Lu, rfl, hu, hq⟩

theorem refParts_spec {s : List UInt8} (w0 : World) (hs1 : s.length < 4294967281) : Calls Tryz.prog 89 #[str s] w0 fun e w' => ∃ u Lu, e = .returned u ∧ OwnSl 9 1 u (partsL s).length (strs (partsL s)) Lu ∧ Step [] Lu w0 w' := by
 have hs : Step [] [] w0 w0 := Step.refl w0
 by_cases h0 : s = []
 ·have e : partsL s = [] := if_pos h0
  rw [e]
  refine calls (n := 34) Tryz.func89 rfl rfl rfl ?_
  refine cQ <| cR <| wa rfl <| wZ <| cQ <| cQ <| cR <| wm rfl <| wV rfl (run_bT (run_strEq rfl rfl) (by exact h0)) <| wZ ?_
  repeat (first | refine cQ ?_ | refine CW.condT rfl ?_)
  refine cR <| wa rfl <| wZ ?_
  refine CW.ret ?_
  refine fin_ret1 rfl ?_
  exact ⟨_, _, rfl, .nil _ _, hs⟩
 ·have e : partsL s = splitL s := if_neg h0
  rw [e]
  refine calls (n := 34) Tryz.func89 rfl rfl rfl ?_
  refine cQ <| cR <| wa rfl <| wZ <| cQ <| cQ <| cR <| wm rfl <| wV rfl (run_bF (run_strEq rfl rfl) (by exact h0)) <| wZ ?_
  repeat (first | refine cQ ?_ | refine cK ?_ | refine CW.condF rfl ?_)
  refine cR <| wa rfl <| wZ <| cQ <| cR <| wa rfl <| wZ <| cQ <| cQ <| cR <| wa rfl <| wZ <| CW.block ?_
  refine CW.loop (fun m f w' => ∃ i fr P u Lu, i ≤ s.length + 1 ∧ m = s.length + 1 - i ∧ P.length ≤ i ∧ (i ≤ s.length → fr ≤ i ∧ splitL s = P ++ splitL (s.drop fr) ∧ 47 ∉ (s.drop fr).take (i - fr)) ∧ (i = s.length + 1 → splitL s = P) ∧ OwnSl 9 1 u P.length (strs P) Lu ∧ Step [] Lu w0 w' ∧ Holds f [(0, str s), (3, u), (4, .int .i64 fr), (5, .int .i64 i)]) (m := s.length + 1) ?_ ?_
  ·exact ⟨0, 0, [], _, [], by omega, by omega, by simp, fun _ => ⟨by omega, rfl, by simp⟩, fun h => by omega, .nil _ _, hs, rfl, rfl, rfl, rfl, trivial⟩
  ·clear hs
   rintro m f w ⟨i, fr, P, u, Lu, hi, rfl, hPl, hin, hout, hu, hs, hf⟩
   have hobt := hf.chain
   obtain ⟨g, rfl⟩ := hobt
   by_cases hle : i ≤ s.length
   ·have hobt := hin hle
    obtain ⟨hfr, hsp, hno⟩ := hobt
    have hdt : (s.drop fr).take (i - fr) = (s.take i).drop fr := by rw [List.drop_take]
    by_cases hend : i = s.length
    ·have hlast : splitL s = P ++ [(s.take i).drop fr] := by
      rw [hsp, splitL_none (by rw [hdt, hend, List.take_length] at hno; exact hno), hend, List.take_length]
     refine cQ <| cQ <| cR <| wm rfl <| wm rfl <| wV rfl (run_lenStr underlying9 rfl) <| wV rfl (run_bT (run_leq rfl rfl) (by omega)) <| wZ ?_
     repeat (first | refine cQ ?_ | refine CW.block ?_ | refine cK ?_ | refine CW.condT rfl ?_)
     refine cR <| wm rfl <| wm rfl <| wV rfl (run_lenStr underlying9 rfl) <| wV rfl (run_bT (run_eql rfl rfl) (by omega)) <| wm rfl <| WL.no rfl rfl rfl (.inl rfl) <| WL.no rfl rfl rfl (.inl rfl) <| WL.no rfl rfl rfl (.inl rfl) <| WL.no rfl rfl rfl (.inl rfl) <| wV rfl (run_pickT rfl) <| wZ ?_
     repeat (first | refine cQ ?_ | refine CW.condT rfl ?_)
     refine cR <| wm rfl <| wm rfl <| wm rfl <| wm rfl <| wV rfl (run_sliceStr underlying9 rfl rfl rfl (by omega) (by omega)) ?_
     refine WL.buildSlice (cs := [str ((s.take i).drop fr)]) underlying88 ty9 rfl (by decide) rfl (filled_s _ _ rfl) rfl hs (fun b29 w hs => ?_)
     have hsl : Sl w 1 (.slice (some ⟨b29, 0, none⟩) 1 1) 1 [str ((s.take i).drop fr)] := .own1 hs rfl
     refine WL.append underlying88 underlying88 ty9 rfl (by decide) rfl rfl (hu) ((Step.append_comm (L1 := [_]) hs)) (hsl) ((fun v hv => by rw [List.mem_singleton.1 hv]; rfl)) (by first | omega | (simp only [List.length_append, List.length_cons, List.length_nil]; omega)) rfl (fun v30 Lv30 w hv30 hs => ?_)
     refine wa rfl <| wZ <| cR <| wm rfl <| wV rfl (run_add (c := ((i + 1 : Nat) : Int)) rfl rfl (by omega) (by omega)) <| wa rfl <| wZ <| cR <| wm rfl <| wV rfl (run_add (c := ((i + 1 : Nat) : Int)) rfl rfl (by omega) (by omega)) <| wa rfl <| wZ ?_
     have eP : strs P ++ [str ((s.take i).drop fr)] = strs (P ++ [(s.take i).drop fr]) := by simp [strs]
     rw [eP] at hv30
     refine (show _ ∧ _ from ⟨rfl, _, ?_, i + 1, i + 1, P ++ [(s.take i).drop fr], _, _, by omega, rfl, by simp; omega, fun h => by omega, fun _ => hlast, ?_, Step.dropR hs, rfl, rfl, rfl, rfl, trivial⟩)
     ·omega
     ·rw [List.length_append]
      exact hv30
    ·have hlt : i < s.length := by omega
     have hc : s[i]? = some s[i] := List.getElem?_eq_getElem hlt
     have hdi : s.drop fr = (s.take i).drop fr ++ s[i] :: s.drop (i + 1) := by
      rw [← hdt, ← List.drop_eq_getElem_cons hlt]
      have : s.drop i = (s.drop fr).drop (i - fr) := by rw [List.drop_drop]; congr 1; omega
      rw [this, List.take_append_drop]
     by_cases hsl : s[i] = 47
     ·have hcut : splitL s = P ++ [(s.take i).drop fr] ++ splitL (s.drop (i + 1)) := by
       rw [hdt] at hno
       rw [hsp, hdi, hsl, splitL_hit hno, List.append_assoc]
       rfl
      refine cQ <| cQ <| cR <| wm rfl <| wm rfl <| wV rfl (run_lenStr underlying9 rfl) <| wV rfl (run_bT (run_leq rfl rfl) (by omega)) <| wZ ?_
      repeat (first | refine cQ ?_ | refine CW.block ?_ | refine cK ?_ | refine CW.condT rfl ?_)
      refine cR <| wm rfl <| wm rfl <| wV rfl (run_lenStr underlying9 rfl) <| wV rfl (run_bF (run_eql rfl rfl) (by omega)) <| wm rfl <| WL.yes rfl rfl rfl <| wm rfl <| WL.yes rfl rfl rfl <| wm rfl <| WL.yes rfl rfl rfl <| wV rfl (run_strIdx underlying9 rfl rfl (hc)) ?_
      refine WL.yes rfl rfl rfl <| wV rfl (run_bT (run_eql rfl rfl) (by rw [hsl]; rfl)) <| wV rfl (run_pickF rfl) <| wZ ?_
      repeat (first | refine cQ ?_ | refine CW.condT rfl ?_)
      refine cR <| wm rfl <| wm rfl <| wm rfl <| wm rfl <| wV rfl (run_sliceStr underlying9 rfl rfl rfl (by omega) (by omega)) ?_
      refine WL.buildSlice (cs := [str ((s.take i).drop fr)]) underlying88 ty9 rfl (by decide) rfl (filled_s _ _ rfl) rfl hs (fun b29 w hs => ?_)
      have hsl : Sl w 1 (.slice (some ⟨b29, 0, none⟩) 1 1) 1 [str ((s.take i).drop fr)] := .own1 hs rfl
      refine WL.append underlying88 underlying88 ty9 rfl (by decide) rfl rfl (hu) ((Step.append_comm (L1 := [_]) hs)) (hsl) ((fun v hv => by rw [List.mem_singleton.1 hv]; rfl)) (by first | omega | (simp only [List.length_append, List.length_cons, List.length_nil]; omega)) rfl (fun v30 Lv30 w hv30 hs => ?_)
      refine wa rfl <| wZ <| cR <| wm rfl <| wV rfl (run_add (c := ((i + 1 : Nat) : Int)) rfl rfl (by omega) (by omega)) <| wa rfl <| wZ <| cR <| wm rfl <| wV rfl (run_add (c := ((i + 1 : Nat) : Int)) rfl rfl (by omega) (by omega)) <| wa rfl <| wZ ?_
      have eP : strs P ++ [str ((s.take i).drop fr)] = strs (P ++ [(s.take i).drop fr]) := by simp [strs]
      rw [eP] at hv30
      refine (show _ ∧ _ from ⟨rfl, _, ?_, i + 1, i + 1, P ++ [(s.take i).drop fr], _, _, by omega, rfl, by simp; omega, fun h => ⟨Nat.le_refl _, hcut, by simp⟩, fun h => by omega, ?_, Step.dropR hs, rfl, rfl, rfl, rfl, trivial⟩)
      ·omega
      ·rw [List.length_append]
       exact hv30
     ·have hnz : ¬ ((s[i].toNat : Int) = 47) := fun h => hsl (UInt8.toNat_inj.1 (by simpa using (show s[i].toNat = 47 by omega)))
      refine cQ <| cQ <| cR <| wm rfl <| wm rfl <| wV rfl (run_lenStr underlying9 rfl) <| wV rfl (run_bT (run_leq rfl rfl) (by omega)) <| wZ ?_
      repeat (first | refine cQ ?_ | refine CW.block ?_ | refine cK ?_ | refine CW.condT rfl ?_)
      refine cR <| wm rfl <| wm rfl <| wV rfl (run_lenStr underlying9 rfl) <| wV rfl (run_bF (run_eql rfl rfl) (by omega)) <| wm rfl <| WL.yes rfl rfl rfl <| wm rfl <| WL.yes rfl rfl rfl <| wm rfl <| WL.yes rfl rfl rfl <| wV rfl (run_strIdx underlying9 rfl rfl (hc)) <| WL.yes rfl rfl rfl <| wV rfl (run_bF (run_eql rfl rfl) (by exact hnz)) <| wV rfl (run_pickF rfl) <| wZ ?_
      repeat (first | refine cK ?_ | refine CW.condF rfl ?_)
      refine cR <| wm rfl <| wV rfl (run_add (c := ((i + 1 : Nat) : Int)) rfl rfl (by omega) (by omega)) <| wa rfl <| wZ ?_
      refine (show _ ∧ _ from ⟨rfl, _, ?_, i + 1, fr, P, u, Lu, by omega, rfl, by omega, fun h => ⟨by omega, hsp, ?_⟩, fun h => by omega, hu, hs, rfl, rfl, rfl, rfl, trivial⟩)
      ·omega
      ·rw [show i + 1 - fr = (i - fr) + 1 by omega, List.take_succ_eq_append_getElem (by rw [List.length_drop]; omega), List.mem_append]
       rintro (h | h)
       ·exact hno h
       ·rw [List.mem_singleton, List.getElem_drop] at h
        apply hsl
        rw [h]
        congr 1
        omega
   ·obtain rfl : i = s.length + 1 := by omega
    refine cQ <| cQ <| cR <| wm rfl <| wm rfl <| wV rfl (run_lenStr underlying9 rfl) <| wV rfl (run_bF (run_leq rfl rfl) (by omega)) <| wZ ?_
    repeat (first | refine cQ ?_ | refine CW.exit ?_ | refine CW.condF rfl ?_)
    refine cR <| wm rfl <| wa rfl <| wZ ?_
    refine CW.ret ?_
    refine fin_ret1 rfl ?_
    rw [hout rfl]
    exact ⟨u, Lu, rfl, hu, hs⟩
end Go.Gx
/-! PClean -/
namespace Go.Gx
open Go.Proofs Go.Proofs.Tryz Go.RowKit
set_option maxRecDepth 100000

section
variable {P : Program} {f : Slots} {w : World} {d : Option Tmp} {ty : TypeId} {pos : String} {af : Array Edge} {x y z : Operand} {T T' : TypeId} {s t : List UInt8}
theorem run_strAdd (hx : ev f x = str s) (hy : ev f y = str t) (hl : s.length + t.length ≤ 9223372036854775807) : (execOp (ev f) ⟨d, .binOp .add T x y T', ty, pos, af, none⟩).run P w = .ok (.value (str (s ++ t))) w := by
 have h : ¬ (9223372036854775807 < (s.length : Int) + (t.length : Int)) := by omega
 have e : ByteArray.mk ⟨s⟩ ++ ByteArray.mk ⟨t⟩ = ⟨⟨s ++ t⟩⟩ := by
  apply ByteArray.ext
  simp
 simp [execOp, hx, hy, str, go_sem, binOp, Op.stringOp, h, e]
end
theorem Step.ofBelow {w w' : World} (h : Below w.heap.size w w') : Step [] [] w w' := by
 obtain ⟨h1, h2, h3, h4, h5⟩ := h
 exact ⟨⟨h1, h2, h3, h4, fun k hk _ => h5 k hk, Nat.le_refl _⟩, by simp, by simp, by simp⟩
theorem strs_append (a b : List (List UInt8)) : strs (a ++ b) = strs a ++ strs b := by simp [strs]

def joinL (l : List (List UInt8)) : List UInt8 := [47].intercalate l
def cleanGo : List (List UInt8) → List (List UInt8) → Except Int (List (List UInt8))
 | [], row => .ok row
 | p :: ps, row =>
  if p = [] ∨ p = [46] then cleanGo ps row
  else if p = [46, 46] then (if row = [] then .error 32 else cleanGo ps row.dropLast)
  else if isName p = false then .error 31 else cleanGo ps (row ++ [p])
def cleanR (s : List UInt8) : Except Int (List UInt8) :=
 if 4096 < s.length then .error 2 else match cleanGo (partsL s) [] with
  | .error e => .error e
  | .ok row => if 32 < row.length then .error 33 else .ok (joinL row)
def cleanS (s : List UInt8) : List UInt8 := match cleanR s with | .ok p => p | .error _ => []
def cleanE (s : List UInt8) : Int := match cleanR s with | .ok _ => 0 | .error e => e
theorem clean_err {s : List UInt8} {e : Int} (h : cleanR s = .error e) : cleanS s = [] ∧ cleanE s = e := by unfold cleanS cleanE; rw [h]; exact ⟨rfl, rfl⟩
theorem clean_ok {s p : List UInt8} (h : cleanR s = .ok p) : cleanS s = p ∧ cleanE s = 0 := by unfold cleanS cleanE; rw [h]; exact ⟨rfl, rfl⟩

theorem join_len : ∀ l : List (List UInt8), (joinL l).length ≤ (l.map fun x => x.length + 1).sum
 | [] => by simp [joinL, List.intercalate]
 | [x] => by simp [joinL, List.intercalate]
 | x :: y :: l => by
  have ih := join_len (y :: l)
  have e : joinL (x :: y :: l) = x ++ 47 :: joinL (y :: l) := by simp [joinL, List.intercalate, List.intersperse]
  rw [e]
  simp only [List.length_append, List.length_cons, List.map_cons, List.sum_cons] at *
  omega

/-- One part less. -/
theorem OwnSl.cut1 {E k : Nat} {b cap : Nat} {row : List (List UInt8)} {Lv : List (Nat × Obj)} (h : OwnSl E 1 (.slice (some ⟨b, 0, none⟩) k cap) k (strs row) Lv) (hk : 0 < k) : OwnSl E 1 (.slice (some ⟨b, 0, none⟩) (k - 1) cap) row.dropLast.length (strs row.dropLast) Lv := by
 have hsm := h.some1 hk
 obtain ⟨b', cap', more, h1, h2, h3⟩ := hsm
 cases h1
 have hl := h.1
 rw [strs_len, Nat.mul_one] at hl
 have hne : row ≠ [] := fun e => by rw [e] at hl; simp at hl; omega
 have e : strs row = strs row.dropLast ++ [str (row.getLast hne)] := by
  have := strs_append row.dropLast [row.getLast hne]
  rw [List.dropLast_concat_getLast] at this
  exact this
 have hdl : row.dropLast.length = k - 1 := by rw [List.length_dropLast, hl]
 refine ⟨by rw [strs_len, Nat.mul_one], .inr ⟨b, cap, [str (row.getLast hne)] ++ more, by rw [hdl], by rw [h2, e, List.append_assoc], ?_⟩⟩
 rw [← List.append_assoc, ← e]
 exact h3

theorem join_spec {u : Value} {row : List (List UInt8)} {Lu : List (Nat × Obj)} (w0 : World) (hu : OwnSl 9 1 u row.length (strs row) Lu) (hs : Step (Lu.map (·.1)) Lu w0 w0) (hl : row.length ≤ 1000000) (hj : (joinL row).length ≤ 1000000) : Calls Tryz.prog 72 #[u, str [47]] w0 (Ret0 (str (joinL row)) w0) := by
 obtain ⟨hlen, ⟨rfl, h0, rfl⟩ | ⟨b, cap, more, rfl, rfl, hcap⟩⟩ := hu
 ·obtain rfl : row = [] := List.eq_nil_of_length_eq_zero h0
  refine (Tryz.strings_Join_none none 0 slashB w0).mono fun e w' ⟨h1, h2⟩ => ?_
  subst h2
  exact ⟨h1, Step.refl _⟩
 ·have hb := hs.hd
  have hm : (row.map fun l => ByteArray.mk ⟨l⟩).length = row.length := by simp
  have hmm : ((row.map fun l => ByteArray.mk ⟨l⟩).map (·.data.toList)) = row := by
   rw [List.map_map]
   exact (List.map_congr_left (g := id) fun l _ => rfl).trans (List.map_id row)
  have hcl : row.length ≤ cap := by
   rw [List.length_append, strs_len] at hcap
   omega
  have h := Tryz.strings_Join b 0 cap (row.map fun l => ByteArray.mk ⟨l⟩) slashB w0 (fun j x hx => by
   rw [cell_blk hb, Nat.zero_add]
   have hjl : j < row.length := by
    have := (List.getElem?_eq_some_iff.1 hx).1
    simpa using this
   rw [List.getElem?_append_left (by rw [strs_len]; exact hjl)]
   simp only [List.getElem?_map] at hx
   simp only [strs, List.getElem?_map]
   cases hr : row[j]? with
   | none => rw [hr] at hx; cases hx
   | some l =>
    rw [hr] at hx
    obtain rfl : ByteArray.mk ⟨l⟩ = x := by simpa using hx
    rfl) (lt_of_get hb) (by rw [hm]; omega) (by rw [hm]; exact hcl) (by rw [hmm]; show (joinL row).length ≤ _; omega)
  rw [hm, hmm] at h
  exact h.mono fun e w' ⟨h1, h2⟩ => ⟨h1, Step.ofBelow h2⟩
end Go.Gx
/-! PClean2 -/
namespace Go.Gx
open Go.Proofs Go.Proofs.Tryz Go.RowKit
set_option maxRecDepth 100000

theorem splitL_len : ∀ s, (splitL s).length ≤ s.length + 1
 | [] => by simp [splitL]
 | c :: s => by
  have ih := splitL_len s
  rw [splitL]
  split
  ·simp; omega
  ·split
   ·simp
   ·rename_i p ps h
    rw [h] at ih
    simp at ih ⊢
    omega
theorem partsL_len (s : List UInt8) : (partsL s).length ≤ s.length + 1 := by
 unfold partsL
 split
 ·simp
 ·exact splitL_len s
def Named (row : List (List UInt8)) : Prop := ∀ p ∈ row, isName p = true
theorem isName_le {s : List UInt8} (h : isName s = true) : s.length ≤ 64 := by
 simp only [isName, Bool.and_eq_true, decide_eq_true_eq] at h
 exact h.1.2.1
theorem named_join : ∀ {row : List (List UInt8)}, Named row → (row.map fun x => x.length + 1).sum ≤ 65 * row.length
 | [], _ => by simp
 | x :: row, h => by
  have h1 := isName_le (h x (by simp))
  have h2 := named_join (row := row) (fun p hp => h p (by simp [hp]))
  simp only [List.map_cons, List.sum_cons, List.length_cons]
  omega

theorem splitL_le : ∀ (s p : List UInt8), p ∈ splitL s → p.length ≤ s.length
 | [], p, h => by
  simp [splitL] at h
  simp [h]
 | c :: s, p, h => by
  have ih := splitL_le s
  rw [splitL] at h
  split at h
  ·rcases List.mem_cons.1 h with rfl | h
   ·simp
   ·have := ih p h; simp; omega
  ·split at h
   ·rcases List.mem_cons.1 h with rfl | h
    ·simp
    ·cases h
   ·rename_i q qs hq
    rw [hq] at ih
    rcases List.mem_cons.1 h with rfl | h
    ·have := ih q (by simp); simp; omega
    ·have := ih p (by simp [h]); simp; omega
theorem partsL_le {s p : List UInt8} (h : p ∈ partsL s) : p.length ≤ s.length := by
 unfold partsL at h
 split at h
 ·cases h
 ·exact splitL_le s p h

theorem Step.dropX {S : List Nat} {p : Nat × Obj} {A B : List (Nat × Obj)} {w0 w : World} (h : Step S (A ++ p :: B) w0 w) : Step S (A ++ B) w0 w := (h.perm List.perm_middle).tail

set_option maxHeartbeats 2000000 in
theorem clean_spec {s : List UInt8} (w0 : World) (hg : Gl w0) (hs1 : s.length ≤ 9223372036854775807) : Calls Tryz.prog 45 #[str s] w0 (Ret0 (.tuple #[str (cleanS s), .int .i64 (cleanE s)]) w0) := by
 have hs : Step [] [] w0 w0 := Step.refl w0
 by_cases hbig : 4096 < s.length
 ·have hc := clean_err (s := s) (e := 2) (by unfold cleanR; rw [if_pos hbig])
  refine calls (n := 54) Tryz.func45 rfl rfl rfl ?_
  refine cQ <| cR <| wa rfl <| wa rfl <| wZ <| cQ <| cQ <| cR <| wm rfl <| wV rfl (run_lenStr underlying9 rfl) <| wV rfl (run_bT (run_gtr rfl rfl) (by omega)) <| wZ ?_
  repeat (first | refine cQ ?_ | refine CW.condT rfl ?_)
  refine cR <| wa rfl <| wa rfl <| wZ ?_
  refine CW.ret ?_
  refine fin_ret2 rfl ?_
  exact ⟨by rw [hc.1, hc.2]; kernel_rfl, hs⟩
 ·have hcE : ∀ e, cleanGo (partsL s) [] = .error e → cleanS s = [] ∧ cleanE s = e := fun e h => clean_err (by unfold cleanR; rw [if_neg hbig, h])
  have hcO : ∀ row, cleanGo (partsL s) [] = .ok row → 32 < row.length → cleanS s = [] ∧ cleanE s = 33 := fun row h h2 => clean_err (by unfold cleanR; rw [if_neg hbig, h]; exact if_pos h2)
  have hcK : ∀ row, cleanGo (partsL s) [] = .ok row → ¬ 32 < row.length → cleanS s = joinL row ∧ cleanE s = 0 := fun row h h2 => clean_ok (by unfold cleanR; rw [if_neg hbig, h]; exact if_neg h2)
  have hpl := partsL_len s
  have hple : ∀ p ∈ partsL s, p.length ≤ s.length := fun p h => partsL_le h
  refine calls (n := 54) Tryz.func45 rfl rfl rfl ?_
  refine cQ <| cR <| wa rfl <| wa rfl <| wZ <| cQ <| cQ <| cR <| wm rfl <| wV rfl (run_lenStr underlying9 rfl) <| wV rfl (run_bF (run_gtr rfl rfl) (by omega)) <| wZ ?_
  repeat (first | refine cQ ?_ | refine cK ?_ | refine CW.condF rfl ?_)
  refine cR <| wa rfl <| wZ <| cQ <| cQ <| cR <| wm rfl ?_
  refine wE rfl (run_call en56 rfl rfl) (parts_spec _ hg (by omega)) ?_
  rintro e w ⟨u, Lp, rfl, hu, hq⟩
  refine ⟨_, rfl, ?_⟩
  have hs := hq
  have hform := hu.form
  obtain ⟨a, c, hq2⟩ := hform
  subst hq2
  refine wV rfl (run_lenSl underlying88 rfl) <| wm rfl <| wZ ?_
  have hobt : ∃ ps, partsL s = ps := ⟨_, rfl⟩
  obtain ⟨ps, hps⟩ := hobt
  rw [hps] at hcE hcO hcK hpl hu hple
  refine CW.block ?_
  refine CW.loop (fun m f w' => ∃ i row v Lv, i ≤ ps.length ∧ m = ps.length - i ∧ cleanGo ps [] = cleanGo (ps.drop i) row ∧ row.length ≤ i ∧ Named row ∧ OwnSl 9 1 v row.length (strs row) Lv ∧ Step [] (Lv ++ Lp) w0 w' ∧ Holds f [(4, v), (11, .slice a ps.length c), (12, .int .i64 ps.length), (13, .int .i64 i)]) (m := ps.length) ?_ ?_
  ·exact ⟨0, [], _, [], by omega, by omega, rfl, by simp, (fun p hp => by cases hp), .nil _ _, hs, rfl, by rw [← hps]; rfl, by rw [← hps]; rfl, rfl, trivial⟩
  ·clear hs hq
   rintro m f w ⟨i, row, v, Lv, hi, rfl, hgo, hrl, hnm, hv, hs, hf⟩
   have hobt := hf.chain
   obtain ⟨g, rfl⟩ := hobt
   have hvf := hv.form
   obtain ⟨va, vc, rfl⟩ := hvf
   by_cases hlt : i < ps.length
   ·have hobt : ∃ p, ps[i] = p := ⟨_, rfl⟩
    obtain ⟨p, hp⟩ := hobt
    rw [List.drop_eq_getElem_cons hlt, hp, cleanGo] at hgo
    have hpi : ps[i]? = some p := by rw [List.getElem?_eq_getElem hlt, hp]
    have hpl1 := hple p (List.mem_of_getElem? hpi)
    have hsm := hu.some1 (by omega)
    obtain ⟨bp, cp, more, hq1, hqL, hcp⟩ := hsm
    cases hq1
    subst hqL
    have hcl : ps.length ≤ c := by
     rw [List.length_append, strs_len] at hcp
     omega
    have hcell : w.cell? ⟨bp, 0 + i * 1, none⟩ = some (str p) := by
     rw [cell_blk (hs.at Lv), Nat.zero_add, Nat.mul_one, List.getElem?_append_left (by rw [strs_len]; exact hlt)]
     simp [strs, hpi]
    refine cQ <| cR <| wV rfl (run_bT (run_lss rfl rfl) (by omega)) <| wZ ?_
    repeat (first | refine cQ ?_ | refine CW.block ?_ | refine cK ?_ | refine CW.condT rfl ?_)
    refine cR <| wV rfl (run_ixSlN underlying88 ty9 rfl rfl (by omega)) <| wV rfl (run_load1 ty9 rfl (hcell)) <| wa rfl <| wZ ?_
    by_cases h1 : p = []
    ·rw [if_pos (.inl h1)] at hgo
     repeat (first | refine cQ ?_ | refine CW.block ?_)
     refine cR <| wm rfl <| wV rfl (run_bT (run_strEq rfl rfl) (by exact h1)) <| wm rfl <| WL.no rfl rfl rfl (.inl rfl) <| WL.no rfl rfl rfl (.inl rfl) <| wV rfl (run_pickT rfl) <| wa rfl <| wZ ?_
     repeat (first | refine cK ?_ | refine CW.condT rfl ?_)
     refine cR <| wV rfl (run_add (c := ((i + 1 : Nat) : Int)) rfl rfl (by omega) (by omega)) <| wm rfl <| wZ ?_
     refine (show _ ∧ _ from ⟨rfl, _, ?_, i + 1, row, _, _, by omega, rfl, hgo, by omega, hnm, hv, hs, rfl, rfl, rfl, rfl, trivial⟩)
     omega
    ·by_cases h2 : p = [46]
     ·rw [if_pos (.inr h2)] at hgo
      repeat (first | refine cQ ?_ | refine CW.block ?_)
      refine cR <| wm rfl <| wV rfl (run_bF (run_strEq rfl rfl) (by exact h1)) <| wm rfl <| WL.yes rfl rfl rfl <| wm rfl <| WL.yes rfl rfl rfl <| wV rfl (run_bT (run_strEq rfl rfl) (by exact h2)) <| wV rfl (run_pickF rfl) <| wa rfl <| wZ ?_
      repeat (first | refine cK ?_ | refine CW.condT rfl ?_)
      refine cR <| wV rfl (run_add (c := ((i + 1 : Nat) : Int)) rfl rfl (by omega) (by omega)) <| wm rfl <| wZ ?_
      refine (show _ ∧ _ from ⟨rfl, _, ?_, i + 1, row, _, _, by omega, rfl, hgo, by omega, hnm, hv, hs, rfl, rfl, rfl, rfl, trivial⟩)
      omega
     ·rw [if_neg (fun h => h.elim h1 h2)] at hgo
      repeat (first | refine cQ ?_ | refine CW.block ?_)
      refine cR <| wm rfl <| wV rfl (run_bF (run_strEq rfl rfl) (by exact h1)) <| wm rfl <| WL.yes rfl rfl rfl <| wm rfl <| WL.yes rfl rfl rfl <| wV rfl (run_bF (run_strEq rfl rfl) (by exact h2)) <| wV rfl (run_pickF rfl) <| wa rfl <| wZ ?_
      by_cases h3 : p = [46, 46]
      ·rw [if_pos h3] at hgo
       by_cases h4 : row = []
       ·rw [if_pos h4] at hgo
        have hc := hcE 32 hgo
        subst h4
        repeat (first | refine cQ ?_ | refine CW.condF rfl ?_)
        refine cR <| wm rfl <| wV rfl (run_bT (run_strEq rfl rfl) (by exact h3)) <| wm rfl <| WL.yes rfl rfl rfl <| wm rfl <| WL.yes rfl rfl rfl <| wV rfl (run_lenSl underlying88 rfl) <| WL.yes rfl rfl rfl <| wV rfl (run_bT (run_eql rfl rfl) (by rfl)) <| wV rfl (run_pickT rfl) <| wa rfl <| wZ ?_
        repeat (first | refine cQ ?_ | refine CW.condT rfl ?_)
        refine cR <| wa rfl <| wa rfl <| wZ ?_
        refine CW.ret ?_
        refine fin_ret2 rfl ?_
        exact ⟨by rw [hc.1, hc.2]; kernel_rfl, Step.dropR (L1 := []) hs⟩
       ·rw [if_neg h4] at hgo
        have hr0 : 0 < row.length := List.length_pos_iff.2 h4
        have hsm := hv.some1 hr0
        obtain ⟨bv, cv, mv, hq1, hqL, hcv⟩ := hsm
        cases hq1
        subst hqL
        have hv2 := hv.cut1 hr0
        have hcr : row.length ≤ vc := by
         rw [List.length_append, strs_len] at hcv
         omega
        have hdl : row.dropLast.length = row.length - 1 := List.length_dropLast
        have hnm2 : Named row.dropLast := fun q hq => hnm q (List.dropLast_subset _ hq)
        repeat (first | refine cQ ?_ | refine CW.condF rfl ?_)
        refine cR <| wm rfl <| wV rfl (run_bT (run_strEq rfl rfl) (by exact h3)) <| wm rfl <| WL.yes rfl rfl rfl <| wm rfl <| WL.yes rfl rfl rfl <| wV rfl (run_lenSl underlying88 rfl) <| WL.yes rfl rfl rfl <| wV rfl (run_bF (run_eql rfl rfl) (by omega)) <| wV rfl (run_pickT rfl) <| wa rfl <| wZ ?_
        repeat (first | refine cQ ?_ | refine CW.condF rfl ?_)
        refine cR <| wm rfl <| wV rfl (run_bT (run_strEq rfl rfl) (by exact h3)) <| wa rfl <| wZ <| CW.condT rfl <| cR <| wm rfl <| wm rfl <| wV rfl (run_lenSl underlying88 rfl) <| wV rfl (run_sub (c := ((row.length - 1 : Nat) : Int)) rfl rfl (by omega) (by omega)) <| wV rfl (run_sliceSl0 (hi := row.length - 1) underlying88 ty9 rfl rfl rfl (by simp) (by omega) (by omega)) <| wa rfl <| wZ <| cR <| wV rfl (run_add (c := ((i + 1 : Nat) : Int)) rfl rfl (by omega) (by omega)) <| wm rfl <| wZ ?_
        refine (show _ ∧ _ from ⟨rfl, _, ?_, i + 1, row.dropLast, _, _, by omega, rfl, hgo, by omega, hnm2, hv2, hs, rfl, rfl, rfl, rfl, trivial⟩)
        omega
      ·rw [if_neg h3] at hgo
       by_cases h4 : isName p = false
       ·rw [if_pos h4] at hgo
        have hc := hcE 31 hgo
        repeat (first | refine cQ ?_ | refine CW.condF rfl ?_)
        refine cR <| wm rfl <| wV rfl (run_bF (run_strEq rfl rfl) (by exact h3)) <| wm rfl <| WL.no rfl rfl rfl (.inl rfl) <| WL.no rfl rfl rfl (.inl rfl) <| WL.no rfl rfl rfl (.inl rfl) <| wV rfl (run_pickF rfl) <| wa rfl <| wZ ?_
        repeat (first | refine cQ ?_ | refine CW.condF rfl ?_)
        refine cR <| wm rfl <| wV rfl (run_bF (run_strEq rfl rfl) (by exact h3)) <| wa rfl <| wZ ?_
        repeat (first | refine cQ ?_ | refine CW.condF rfl ?_)
        refine cR <| wm rfl ?_
        refine wE rfl (run_call en71 rfl rfl) (isName_spec h4 _ (by omega)) ?_
        rintro e w ⟨rfl, hq⟩
        refine ⟨_, rfl, ?_⟩
        replace hs := hs.callE hq
        refine wV rfl (run_not rfl) <| wa rfl <| wZ ?_
        repeat (first | refine cQ ?_ | refine CW.condT rfl ?_)
        refine cR <| wa rfl <| wa rfl <| wZ ?_
        refine CW.ret ?_
        refine fin_ret2 rfl ?_
        exact ⟨by rw [hc.1, hc.2]; kernel_rfl, Step.dropR (L1 := []) hs⟩
       ·rw [if_neg h4] at hgo
        have h5 : isName p = true := by simpa using h4
        have hnm2 : Named (row ++ [p]) := fun q hq => by
         rcases List.mem_append.1 hq with h | h
         ·exact hnm q h
         ·rw [List.mem_singleton.1 h]; exact h5
        have hla : (row ++ [p]).length = row.length + 1 := by simp
        repeat (first | refine cQ ?_ | refine CW.condF rfl ?_)
        refine cR <| wm rfl <| wV rfl (run_bF (run_strEq rfl rfl) (by exact h3)) <| wm rfl <| WL.no rfl rfl rfl (.inl rfl) <| WL.no rfl rfl rfl (.inl rfl) <| WL.no rfl rfl rfl (.inl rfl) <| wV rfl (run_pickF rfl) <| wa rfl <| wZ ?_
        repeat (first | refine cQ ?_ | refine CW.condF rfl ?_)
        refine cR <| wm rfl <| wV rfl (run_bF (run_strEq rfl rfl) (by exact h3)) <| wa rfl <| wZ ?_
        repeat (first | refine cQ ?_ | refine CW.condF rfl ?_)
        refine cR <| wm rfl ?_
        refine wE rfl (run_call en71 rfl rfl) (isName_spec h5 _ (by omega)) ?_
        rintro e w ⟨rfl, hq⟩
        refine ⟨_, rfl, ?_⟩
        replace hs := hs.callE hq
        refine wV rfl (run_not rfl) <| wa rfl <| wZ ?_
        have hfin : ∀ v L, OwnSl 9 1 v (row.length + 1) (strs row ++ [str p]) L → OwnSl 9 1 v (row ++ [p]).length (strs (row ++ [p])) L := fun v L h => by rw [hla, strs_append]; exact h
        refine CW.condF rfl <| cR <| wm rfl <| wm rfl ?_
        refine WL.buildSlice (cs := [str p]) underlying88 ty9 rfl (by decide) rfl (by rfl) rfl hs (fun b19 w hs => ?_)
        refine WL.append underlying88 underlying88 ty9 rfl (by decide) rfl rfl (hv) (Step.perm hs List.perm_middle.symm) (Sl.mk (cs := [str p]) rfl (At.of_blk hs.hd)) (Cells1.of_all rfl) (by first | omega | (simp only [List.length_append, List.length_cons, List.length_nil]; omega)) rfl (fun v20 Lv20 w hv20 hs => ?_)
        refine wa rfl <| wZ <| cR <| wV rfl (run_add (c := ((i + 1 : Nat) : Int)) rfl rfl (by omega) (by omega)) <| wm rfl <| wZ ?_
        refine (show _ ∧ _ from ⟨rfl, _, ?_, i + 1, row ++ [p], _, _, by omega, rfl, hgo, by omega, hnm2, hfin _ _ hv20, Step.dropX hs, rfl, rfl, rfl, rfl, trivial⟩)
        omega
   ·have hii : i = ps.length := by omega
    rw [hii, List.drop_length, cleanGo] at hgo
    by_cases hb : 32 < row.length
    ·have hc := hcO row hgo hb
     refine cQ <| cR <| wV rfl (run_bF (run_lss rfl rfl) (by omega)) <| wZ ?_
     repeat (first | refine cQ ?_ | refine CW.exit ?_ | refine CW.condF rfl ?_)
     refine cR <| wm rfl <| wV rfl (run_lenSl underlying88 rfl) <| wV rfl (run_bT (run_gtr rfl rfl) (by omega)) <| wZ ?_
     repeat (first | refine cQ ?_ | refine CW.condT rfl ?_)
     refine cR <| wa rfl <| wa rfl <| wZ ?_
     refine CW.ret ?_
     refine fin_ret2 rfl ?_
     exact ⟨by rw [hc.1, hc.2]; kernel_rfl, Step.dropR (L1 := []) hs⟩
    ·have hc := hcK row hgo hb
     have hjl := join_len row
     have hnj := named_join hnm
     refine cQ <| cR <| wV rfl (run_bF (run_lss rfl rfl) (by omega)) <| wZ ?_
     repeat (first | refine cQ ?_ | refine CW.exit ?_ | refine CW.condF rfl ?_)
     refine cR <| wm rfl <| wV rfl (run_lenSl underlying88 rfl) <| wV rfl (run_bF (run_gtr rfl rfl) (by omega)) <| wZ ?_
     repeat (first | refine cQ ?_ | refine cK ?_ | refine CW.condF rfl ?_)
     refine cR <| wm rfl ?_
     refine wE rfl (run_call en72 rfl rfl) (join_spec _ hv (Step.start hs.dropR.nodup hs.dropR.has) (by omega) (by omega)) ?_
     rintro e w ⟨rfl, hq⟩
     refine ⟨_, rfl, ?_⟩
     refine wa rfl <| wa rfl <| wZ ?_
     refine CW.ret ?_
     refine fin_ret2 rfl ?_
     exact ⟨by rw [hc.1, hc.2]; kernel_rfl, Step.dropR (L1 := []) (hs.callE hq)⟩
end Go.Gx
/-! PClean3 -/
namespace Go.Gx
open Go.Proofs Go.Proofs.Tryz Go.RowKit
set_option maxRecDepth 100000

theorem joinL_snoc (l : List (List UInt8)) (p : List UInt8) : joinL (l ++ [p]) = (if 0 < l.length then joinL l ++ [47] else joinL l) ++ p := by
 induction l with
 | nil => simp [joinL, List.intercalate]
 | cons x l ih =>
  rw [if_pos (by simp)]
  cases l with
  | nil => simp [joinL, List.intercalate]
  | cons y l =>
   rw [if_pos (by simp)] at ih
   have e1 : joinL (x :: y :: l) = x ++ 47 :: joinL (y :: l) := by simp [joinL, List.intercalate, List.intersperse]
   have e2 : joinL (x :: y :: l ++ [p]) = x ++ 47 :: joinL (y :: l ++ [p]) := by simp [joinL, List.intercalate, List.intersperse]
   rw [e2, ih, e1]
   simp
theorem joinL_take {l : List (List UInt8)} {i : Nat} {p : List UInt8} (h : l[i]? = some p) : joinL (l.take (i + 1)) = (if 0 < i then joinL (l.take i) ++ [47] else joinL (l.take i)) ++ p := by
 have hi := (List.getElem?_eq_some_iff.1 h).1
 rw [List.take_add_one, h]
 show joinL (l.take i ++ [p]) = _
 rw [joinL_snoc, List.length_take, Nat.min_eq_left (by omega)]

theorem joinTake_len {l : List (List UInt8)} (i : Nat) : (joinL (l.take i)).length ≤ (l.map fun x => x.length + 1).sum := by
 have h1 := join_len (l.take i)
 have h2 : ((l.take i).map fun x => x.length + 1).sum ≤ (l.map fun x => x.length + 1).sum := by
  conv => rhs; rw [← List.take_append_drop i l]
  rw [List.map_append, List.sum_append]
  omega
 omega

set_option maxHeartbeats 2000000 in
theorem refPath_spec {u : Value} {ps : List (List UInt8)} {S : List Nat} {Lp : List (Nat × Obj)} (w0 : World) (hu : OwnSl 9 1 u ps.length (strs ps) Lp) (hs : Step S Lp w0 w0) (hbd : (ps.map fun x => x.length + 1).sum ≤ 9000000) : Calls Tryz.prog 91 #[u] w0 (Ret0 (str (joinL ps)) w0) := by
 have hs0 : Step [] [] w0 w0 := Step.refl w0
 have hform := hu.form
 obtain ⟨a, c, hq2⟩ := hform
 subst hq2
 have hpl : ps.length ≤ (ps.map fun x => x.length + 1).sum := by
  clear hbd hu hs
  induction ps with
  | nil => simp
  | cons x ps ih => simp; omega
 have hbase : ps = [] ∨ ∃ bp, a = some ⟨bp, 0, none⟩ ∧ ∀ i p, ps[i]? = some p → w0.cell? ⟨bp, 0 + i * 1, none⟩ = some (str p) := by
  by_cases h0 : ps = []
  ·exact .inl h0
  ·right
   have hobt := hu.some1 (List.length_pos_iff.2 h0)
   obtain ⟨bp, cp, more, hq1, hqL, hcp⟩ := hobt
   cases hq1
   subst hqL
   refine ⟨bp, rfl, fun i p hpi => ?_⟩
   have hlt := (List.getElem?_eq_some_iff.1 hpi).1
   rw [cell_blk hs.hd, Nat.zero_add, Nat.mul_one, List.getElem?_append_left (by rw [strs_len]; exact hlt)]
   simp [strs, hpi]
 have hcl : ps.length ≤ c := by
  rcases hbase with h | ⟨bp, rfl, _⟩
  ·rw [h]; simp
  ·by_cases h0 : ps = []
   ·rw [h0]; simp
   ·have hobt := hu.some1 (List.length_pos_iff.2 h0)
    obtain ⟨bp, cp, more, hq1, hqL, hcp⟩ := hobt
    cases hq1
    rw [List.length_append, strs_len] at hcp
    omega
 refine calls (n := 22) Tryz.func91 rfl rfl rfl ?_
 refine cQ <| cR <| wa rfl <| wZ <| cQ <| cR <| wa rfl <| wZ <| cQ <| cQ <| cR <| wa rfl <| wZ <| CW.block ?_
 refine CW.loop (fun m f w' => ∃ i, i ≤ ps.length ∧ m = ps.length - i ∧ w' = w0 ∧ Holds f [(0, .slice a ps.length c), (3, str (joinL (ps.take i))), (4, .int .i64 i)]) (m := ps.length) ?_ ?_
 ·exact ⟨0, by omega, by omega, rfl, rfl, rfl, rfl, trivial⟩
 ·rintro m f w ⟨i, hi, rfl, rfl, hf⟩
  have hs : Step [] [] w w := Step.refl w
  have hobt := hf.chain
  obtain ⟨g, rfl⟩ := hobt
  by_cases hlt : i < ps.length
  ·rcases hbase with h | ⟨bp, rfl, hcells⟩
   ·rw [h] at hlt; cases hlt
   have hobt : ∃ p, ps[i]? = some p := ⟨_, List.getElem?_eq_getElem hlt⟩
   obtain ⟨p, hpi⟩ := hobt
   have hcell := hcells i p hpi
   have hjt := joinL_take hpi
   have hl1 := joinTake_len (l := ps) i
   have hl2 := joinTake_len (l := ps) (i + 1)
   refine cQ <| cQ <| cR <| wm rfl <| wm rfl <| wV rfl (run_lenSl underlying88 rfl) <| wV rfl (run_bT (run_lss rfl rfl) (by omega)) <| wZ ?_
   by_cases h0 : 0 < i
   ·rw [if_pos h0] at hjt
    have hl3 := congrArg List.length hjt
    rw [List.length_append, List.length_append] at hl3
    simp only [List.length_cons, List.length_nil] at hl3
    repeat (first | refine cQ ?_ | refine CW.block ?_ | refine cK ?_ | refine CW.condT rfl ?_)
    refine cR <| wm rfl <| wV rfl (run_bT (run_gtr rfl rfl) (by omega)) <| wZ <| CW.condT rfl <| cR <| wm rfl <| wV rfl (run_strAdd rfl rfl ((by simp only [List.length_cons, List.length_nil]; omega))) <| wa rfl <| wZ <| cR <| wm rfl ?_
    refine wm rfl <| wm rfl <| wV rfl (run_ixSlN underlying88 ty9 rfl rfl (by omega)) <| wV rfl (run_load1 ty9 rfl (hcell)) <| wV rfl (run_strAdd rfl rfl ((by simp only [List.length_append, List.length_cons, List.length_nil]; omega))) <| wa rfl <| wZ <| cR <| wm rfl <| wV rfl (run_add (c := ((i + 1 : Nat) : Int)) rfl rfl (by omega) (by omega)) <| wa rfl <| wZ ?_
    rw [hjt.symm]
    refine (show _ ∧ _ from ⟨rfl, _, ?_, i + 1, by omega, rfl, rfl, rfl, rfl, rfl, trivial⟩)
    omega
   ·rw [if_neg h0] at hjt
    have hl3 := congrArg List.length hjt
    rw [List.length_append] at hl3
    repeat (first | refine cQ ?_ | refine CW.block ?_ | refine cK ?_ | refine CW.condT rfl ?_)
    refine cR <| wm rfl <| wV rfl (run_bF (run_gtr rfl rfl) (by omega)) <| wZ ?_
    repeat (first | refine cK ?_ | refine CW.condF rfl ?_)
    refine cR <| wm rfl <| wm rfl <| wm rfl <| wV rfl (run_ixSlN underlying88 ty9 rfl rfl (by omega)) <| wV rfl (run_load1 ty9 rfl (hcell)) <| wV rfl (run_strAdd rfl rfl ((by omega))) <| wa rfl <| wZ <| cR <| wm rfl <| wV rfl (run_add (c := ((i + 1 : Nat) : Int)) rfl rfl (by omega) (by omega)) <| wa rfl <| wZ ?_
    refine (show _ ∧ _ from ⟨rfl, _, ?_, i + 1, by omega, rfl, rfl, rfl, by rw [hjt]; rfl, rfl, trivial⟩)
    omega
  ·have hii : i = ps.length := by omega
   refine cQ <| cQ <| cR <| wm rfl <| wm rfl <| wV rfl (run_lenSl underlying88 rfl) <| wV rfl (run_bF (run_lss rfl rfl) (by omega)) <| wZ ?_
   repeat (first | refine cQ ?_ | refine CW.exit ?_ | refine CW.condF rfl ?_)
   refine cR <| wm rfl <| wa rfl <| wZ ?_
   refine CW.ret ?_
   refine fin_ret1 rfl ?_
   rw [hii, List.take_length]
   exact ⟨rfl, hs⟩
end Go.Gx
/-! PClean4 -/
namespace Go.Gx
open Go.Proofs Go.Proofs.Tryz Go.RowKit
set_option maxRecDepth 100000

set_option maxHeartbeats 2000000 in
theorem refClean_spec {s : List UInt8} (w0 : World) (hs1 : s.length ≤ 9223372036854775807) : Calls Tryz.prog 58 #[str s] w0 (Ret0 (.tuple #[str (cleanS s), .int .i64 (cleanE s)]) w0) := by
 have hs : Step [] [] w0 w0 := Step.refl w0
 by_cases hbig : 4096 < s.length
 ·have hc := clean_err (s := s) (e := 2) (by unfold cleanR; rw [if_pos hbig])
  refine calls (n := 64) Tryz.func58 rfl rfl rfl ?_
  refine cQ <| cR <| wa rfl <| wa rfl <| wZ <| cQ <| cQ <| cR <| wm rfl <| wV rfl (run_lenStr underlying9 rfl) <| wV rfl (run_bT (run_gtr rfl rfl) (by omega)) <| wZ ?_
  repeat (first | refine cQ ?_ | refine CW.condT rfl ?_)
  refine cR <| wa rfl <| wa rfl <| wZ ?_
  refine CW.ret ?_
  refine fin_ret2 rfl ?_
  exact ⟨by rw [hc.1, hc.2]; kernel_rfl, hs⟩
 ·have hcE : ∀ e, cleanGo (partsL s) [] = .error e → cleanS s = [] ∧ cleanE s = e := fun e h => clean_err (by unfold cleanR; rw [if_neg hbig, h])
  have hcO : ∀ row, cleanGo (partsL s) [] = .ok row → 32 < row.length → cleanS s = [] ∧ cleanE s = 33 := fun row h h2 => clean_err (by unfold cleanR; rw [if_neg hbig, h]; exact if_pos h2)
  have hcK : ∀ row, cleanGo (partsL s) [] = .ok row → ¬ 32 < row.length → cleanS s = joinL row ∧ cleanE s = 0 := fun row h h2 => clean_ok (by unfold cleanR; rw [if_neg hbig, h]; exact if_neg h2)
  have hpl := partsL_len s
  have hple : ∀ p ∈ partsL s, p.length ≤ s.length := fun p h => partsL_le h
  refine calls (n := 64) Tryz.func58 rfl rfl rfl ?_
  refine cQ <| cR <| wa rfl <| wa rfl <| wZ <| cQ <| cQ <| cR <| wm rfl <| wV rfl (run_lenStr underlying9 rfl) <| wV rfl (run_bF (run_gtr rfl rfl) (by omega)) <| wZ ?_
  repeat (first | refine cQ ?_ | refine cK ?_ | refine CW.condF rfl ?_)
  refine cR <| wm rfl ?_
  refine wE rfl (run_call en89 rfl rfl) (refParts_spec _ (by omega)) ?_
  rintro e w ⟨u, Lp, rfl, hu, hq⟩
  refine ⟨_, rfl, ?_⟩
  have hs := hq
  have hform := hu.form
  obtain ⟨a, c, hq2⟩ := hform
  subst hq2
  refine wa rfl <| wZ <| cQ <| cR <| wa rfl <| wZ <| cQ <| cQ <| cR <| wa rfl <| wZ ?_
  have hobt : ∃ ps, partsL s = ps := ⟨_, rfl⟩
  obtain ⟨ps, hps⟩ := hobt
  rw [hps] at hcE hcO hcK hpl hu hple
  refine CW.block ?_
  refine CW.loop (fun m f w' => ∃ i row v Lv, i ≤ ps.length ∧ m = ps.length - i ∧ cleanGo ps [] = cleanGo (ps.drop i) row ∧ row.length ≤ i ∧ Named row ∧ OwnSl 9 1 v row.length (strs row) Lv ∧ Step [] (Lv ++ Lp) w0 w' ∧ Holds f [(4, .slice a ps.length c), (5, v), (6, .int .i64 i)]) (m := ps.length) ?_ ?_
  ·exact ⟨0, [], _, [], by omega, by omega, rfl, by simp, (fun p hp => by cases hp), .nil _ _, hs, by rw [← hps]; rfl, rfl, rfl, trivial⟩
  ·clear hs hq
   rintro m f w ⟨i, row, v, Lv, hi, rfl, hgo, hrl, hnm, hv, hs, hf⟩
   have hobt := hf.chain
   obtain ⟨g, rfl⟩ := hobt
   have hvf := hv.form
   obtain ⟨va, vc, rfl⟩ := hvf
   by_cases hlt : i < ps.length
   ·have hobt : ∃ p, ps[i] = p := ⟨_, rfl⟩
    obtain ⟨p, hp⟩ := hobt
    rw [List.drop_eq_getElem_cons hlt, hp, cleanGo] at hgo
    have hpi : ps[i]? = some p := by rw [List.getElem?_eq_getElem hlt, hp]
    have hpl1 := hple p (List.mem_of_getElem? hpi)
    have hsm := hu.some1 (by omega)
    obtain ⟨bp, cp, more, hq1, hqL, hcp⟩ := hsm
    cases hq1
    subst hqL
    have hcl : ps.length ≤ c := by
     rw [List.length_append, strs_len] at hcp
     omega
    have hcell : w.cell? ⟨bp, 0 + i * 1, none⟩ = some (str p) := by
     rw [cell_blk (hs.at Lv), Nat.zero_add, Nat.mul_one, List.getElem?_append_left (by rw [strs_len]; exact hlt)]
     simp [strs, hpi]
    refine cQ <| cQ <| cR <| wm rfl <| wm rfl <| wV rfl (run_lenSl underlying88 rfl) <| wV rfl (run_bT (run_lss rfl rfl) (by omega)) <| wZ ?_
    by_cases h1 : p = []
    ·rw [if_pos (.inl h1)] at hgo
     repeat (first | refine cQ ?_ | refine CW.block ?_ | refine cK ?_ | refine CW.condT rfl ?_)
     refine cR <| wm rfl <| wm rfl <| wV rfl (run_ixSlN underlying88 ty9 rfl rfl (by omega)) <| wV rfl (run_load1 ty9 rfl (hcell)) <| wV rfl (run_bT (run_strEq rfl rfl) (by exact h1)) <| wm rfl <| WL.no rfl rfl rfl (.inl rfl) <| WL.no rfl rfl rfl (.inl rfl) <| WL.no rfl rfl rfl (.inl rfl) <| WL.no rfl rfl rfl (.inl rfl) <| WL.no rfl rfl rfl (.inl rfl) <| wV rfl (run_pickT rfl) <| wa rfl <| wZ ?_
     repeat (first | refine cK ?_ | refine CW.condT rfl ?_)
     refine cR <| wm rfl <| wV rfl (run_add (c := ((i + 1 : Nat) : Int)) rfl rfl (by omega) (by omega)) <| wa rfl <| wZ ?_
     refine (show _ ∧ _ from ⟨rfl, _, ?_, i + 1, row, _, _, by omega, rfl, hgo, by omega, hnm, hv, hs, rfl, rfl, rfl, trivial⟩)
     omega
    ·by_cases h2 : p = [46]
     ·rw [if_pos (.inr h2)] at hgo
      repeat (first | refine cQ ?_ | refine CW.block ?_ | refine cK ?_ | refine CW.condT rfl ?_)
      refine cR <| wm rfl <| wm rfl <| wV rfl (run_ixSlN underlying88 ty9 rfl rfl (by omega)) <| wV rfl (run_load1 ty9 rfl (hcell)) <| wV rfl (run_bF (run_strEq rfl rfl) (by exact h1)) <| wm rfl <| WL.yes rfl rfl rfl <| wm rfl <| WL.yes rfl rfl rfl <| wm rfl <| WL.yes rfl rfl rfl <| wV rfl (run_ixSlN underlying88 ty9 rfl rfl (by omega)) <| WL.yes rfl rfl rfl <| wV rfl (run_load1 ty9 rfl (hcell)) <| WL.yes rfl rfl rfl <| wV rfl (run_bT (run_strEq rfl rfl) (by exact h2)) <| wV rfl (run_pickF rfl) <| wa rfl <| wZ ?_
      repeat (first | refine cK ?_ | refine CW.condT rfl ?_)
      refine cR <| wm rfl <| wV rfl (run_add (c := ((i + 1 : Nat) : Int)) rfl rfl (by omega) (by omega)) <| wa rfl <| wZ ?_
      refine (show _ ∧ _ from ⟨rfl, _, ?_, i + 1, row, _, _, by omega, rfl, hgo, by omega, hnm, hv, hs, rfl, rfl, rfl, trivial⟩)
      omega
     ·rw [if_neg (fun h => h.elim h1 h2)] at hgo
      repeat (first | refine cQ ?_ | refine CW.block ?_ | refine cK ?_ | refine CW.condT rfl ?_)
      refine cR <| wm rfl <| wm rfl <| wV rfl (run_ixSlN underlying88 ty9 rfl rfl (by omega)) <| wV rfl (run_load1 ty9 rfl (hcell)) <| wV rfl (run_bF (run_strEq rfl rfl) (by exact h1)) <| wm rfl <| WL.yes rfl rfl rfl <| wm rfl <| WL.yes rfl rfl rfl <| wm rfl <| WL.yes rfl rfl rfl <| wV rfl (run_ixSlN underlying88 ty9 rfl rfl (by omega)) <| WL.yes rfl rfl rfl <| wV rfl (run_load1 ty9 rfl (hcell)) <| WL.yes rfl rfl rfl <| wV rfl (run_bF (run_strEq rfl rfl) (by exact h2)) <| wV rfl (run_pickF rfl) <| wa rfl <| wZ ?_
      by_cases h3 : p = [46, 46]
      ·rw [if_pos h3] at hgo
       by_cases h4 : row = []
       ·rw [if_pos h4] at hgo
        have hc := hcE 32 hgo
        subst h4
        repeat (first | refine cQ ?_ | refine CW.condF rfl ?_)
        refine cR <| wm rfl <| wm rfl <| wV rfl (run_ixSlN underlying88 ty9 rfl rfl (by omega)) <| wV rfl (run_load1 ty9 rfl (hcell)) <| wV rfl (run_bT (run_strEq rfl rfl) (by exact h3)) <| wa rfl <| wZ ?_
        repeat (first | refine cQ ?_ | refine CW.condT rfl ?_)
        refine cR <| wm rfl <| wV rfl (run_lenSl underlying88 rfl) <| wV rfl (run_bT (run_eql rfl rfl) (by rfl)) <| wZ ?_
        repeat (first | refine cQ ?_ | refine CW.condT rfl ?_)
        refine cR <| wa rfl <| wa rfl <| wZ ?_
        refine CW.ret ?_
        refine fin_ret2 rfl ?_
        exact ⟨by rw [hc.1, hc.2]; kernel_rfl, Step.dropR (L1 := []) hs⟩
       ·rw [if_neg h4] at hgo
        have hr0 : 0 < row.length := List.length_pos_iff.2 h4
        have hsm := hv.some1 hr0
        obtain ⟨bv, cv, mv, hq1, hqL, hcv⟩ := hsm
        cases hq1
        subst hqL
        have hv2 := hv.cut1 hr0
        have hcr : row.length ≤ vc := by
         rw [List.length_append, strs_len] at hcv
         omega
        have hdl : row.dropLast.length = row.length - 1 := List.length_dropLast
        have hnm2 : Named row.dropLast := fun q hq => hnm q (List.dropLast_subset _ hq)
        repeat (first | refine cQ ?_ | refine CW.condF rfl ?_)
        refine cR <| wm rfl <| wm rfl <| wV rfl (run_ixSlN underlying88 ty9 rfl rfl (by omega)) <| wV rfl (run_load1 ty9 rfl (hcell)) <| wV rfl (run_bT (run_strEq rfl rfl) (by exact h3)) <| wa rfl <| wZ ?_
        repeat (first | refine cQ ?_ | refine CW.condT rfl ?_)
        refine cR <| wm rfl <| wV rfl (run_lenSl underlying88 rfl) <| wV rfl (run_bF (run_eql rfl rfl) (by omega)) <| wZ ?_
        repeat (first | refine cK ?_ | refine CW.condF rfl ?_)
        refine cR <| wm rfl <| wm rfl <| wV rfl (run_lenSl underlying88 rfl) <| wV rfl (run_sub (c := ((row.length - 1 : Nat) : Int)) rfl rfl (by omega) (by omega)) <| wV rfl (run_sliceSl0 (hi := row.length - 1) underlying88 ty9 rfl rfl rfl (by simp) (by omega) (by omega)) <| wa rfl <| wZ <| cR <| wm rfl <| wV rfl (run_add (c := ((i + 1 : Nat) : Int)) rfl rfl (by omega) (by omega)) <| wa rfl <| wZ ?_
        refine (show _ ∧ _ from ⟨rfl, _, ?_, i + 1, row.dropLast, _, _, by omega, rfl, hgo, by omega, hnm2, hv2, hs, rfl, rfl, rfl, trivial⟩)
        omega
      ·rw [if_neg h3] at hgo
       by_cases h4 : isName p = false
       ·rw [if_pos h4] at hgo
        have hc := hcE 31 hgo
        repeat (first | refine cQ ?_ | refine CW.condF rfl ?_)
        refine cR <| wm rfl <| wm rfl <| wV rfl (run_ixSlN underlying88 ty9 rfl rfl (by omega)) <| wV rfl (run_load1 ty9 rfl (hcell)) <| wV rfl (run_bF (run_strEq rfl rfl) (by exact h3)) <| wa rfl <| wZ ?_
        repeat (first | refine cQ ?_ | refine CW.condF rfl ?_)
        refine cR <| wm rfl <| wm rfl <| wV rfl (run_ixSlN underlying88 ty9 rfl rfl (by omega)) <| wV rfl (run_load1 ty9 rfl (hcell)) ?_
        refine wE rfl (run_call en90 rfl rfl) (refIsName_spec h4 _ (by omega)) ?_
        rintro e w ⟨rfl, hq⟩
        refine ⟨_, rfl, ?_⟩
        replace hs := hs.callE hq
        refine wV rfl (run_not rfl) <| wa rfl <| wZ ?_
        repeat (first | refine cQ ?_ | refine CW.condT rfl ?_)
        refine cR <| wa rfl <| wa rfl <| wZ ?_
        refine CW.ret ?_
        refine fin_ret2 rfl ?_
        exact ⟨by rw [hc.1, hc.2]; kernel_rfl, Step.dropR (L1 := []) hs⟩
       ·rw [if_neg h4] at hgo
        have h5 : isName p = true := by simpa using h4
        have hnm2 : Named (row ++ [p]) := fun q hq => by
         rcases List.mem_append.1 hq with h | h
         ·exact hnm q h
         ·rw [List.mem_singleton.1 h]; exact h5
        have hla : (row ++ [p]).length = row.length + 1 := by simp
        repeat (first | refine cQ ?_ | refine CW.condF rfl ?_)
        refine cR <| wm rfl <| wm rfl <| wV rfl (run_ixSlN underlying88 ty9 rfl rfl (by omega)) <| wV rfl (run_load1 ty9 rfl (hcell)) <| wV rfl (run_bF (run_strEq rfl rfl) (by exact h3)) <| wa rfl <| wZ ?_
        repeat (first | refine cQ ?_ | refine CW.condF rfl ?_)
        refine cR <| wm rfl <| wm rfl <| wV rfl (run_ixSlN underlying88 ty9 rfl rfl (by omega)) <| wV rfl (run_load1 ty9 rfl (hcell)) ?_
        refine wE rfl (run_call en90 rfl rfl) (refIsName_spec h5 _ (by omega)) ?_
        rintro e w ⟨rfl, hq⟩
        refine ⟨_, rfl, ?_⟩
        replace hs := hs.callE hq
        refine wV rfl (run_not rfl) <| wa rfl <| wZ ?_
        have hfin : ∀ v L, OwnSl 9 1 v (row.length + 1) (strs row ++ [str p]) L → OwnSl 9 1 v (row ++ [p]).length (strs (row ++ [p])) L := fun v L h => by rw [hla, strs_append]; exact h
        have hcell2 : w.cell? ⟨bp, 0 + i * 1, none⟩ = some (str p) := by
         rw [cell_blk (hs.at Lv), Nat.zero_add, Nat.mul_one, List.getElem?_append_left (by rw [strs_len]; exact hlt)]
         simp [strs, hpi]
        refine CW.condF rfl <| cR <| wm rfl <| wm rfl <| wm rfl <| wV rfl (run_ixSlN underlying88 ty9 rfl rfl (by omega)) <| wV rfl (run_load1 ty9 rfl (hcell2)) ?_
        refine WL.buildSlice (cs := [str p]) (vs := [(0, str p)]) underlying88 ty9 rfl (by decide) rfl (by rfl) rfl hs (fun b23 w hs => ?_)
        refine WL.append underlying88 underlying88 ty9 rfl (by decide) rfl rfl (hv) (Step.perm hs List.perm_middle.symm) (Sl.mk (cs := [str p]) rfl (At.of_blk hs.hd)) (Cells1.of_all rfl) (by first | omega | (simp only [List.length_append, List.length_cons, List.length_nil]; omega)) rfl (fun v24 Lv24 w hv24 hs => ?_)
        refine wa rfl <| wZ <| cR <| wm rfl <| wV rfl (run_add (c := ((i + 1 : Nat) : Int)) rfl rfl (by omega) (by omega)) <| wa rfl <| wZ ?_
        refine (show _ ∧ _ from ⟨rfl, _, ?_, i + 1, row ++ [p], _, _, by omega, rfl, hgo, by omega, hnm2, hfin _ _ hv24, Step.dropX hs, rfl, rfl, rfl, trivial⟩)
        omega
   ·have hii : i = ps.length := by omega
    rw [hii, List.drop_length, cleanGo] at hgo
    by_cases hb : 32 < row.length
    ·have hc := hcO row hgo hb
     refine cQ <| cQ <| cR <| wm rfl <| wm rfl <| wV rfl (run_lenSl underlying88 rfl) <| wV rfl (run_bF (run_lss rfl rfl) (by omega)) <| wZ ?_
     repeat (first | refine cQ ?_ | refine CW.exit ?_ | refine CW.condF rfl ?_)
     refine cR <| wm rfl <| wV rfl (run_lenSl underlying88 rfl) <| wV rfl (run_bT (run_gtr rfl rfl) (by omega)) <| wZ ?_
     repeat (first | refine cQ ?_ | refine CW.condT rfl ?_)
     refine cR <| wa rfl <| wa rfl <| wZ ?_
     refine CW.ret ?_
     refine fin_ret2 rfl ?_
     exact ⟨by rw [hc.1, hc.2]; kernel_rfl, Step.dropR (L1 := []) hs⟩
    ·have hc := hcK row hgo hb
     have hjl := join_len row
     have hnj := named_join hnm
     refine cQ <| cQ <| cR <| wm rfl <| wm rfl <| wV rfl (run_lenSl underlying88 rfl) <| wV rfl (run_bF (run_lss rfl rfl) (by omega)) <| wZ ?_
     repeat (first | refine cQ ?_ | refine CW.exit ?_ | refine CW.condF rfl ?_)
     refine cR <| wm rfl <| wV rfl (run_lenSl underlying88 rfl) <| wV rfl (run_bF (run_gtr rfl rfl) (by omega)) <| wZ ?_
     repeat (first | refine cQ ?_ | refine cK ?_ | refine CW.condF rfl ?_)
     refine cR <| wm rfl ?_
     refine wE rfl (run_call en91 rfl rfl) (refPath_spec _ hv (Step.start hs.dropR.nodup hs.dropR.has) (by omega)) ?_
     rintro e w ⟨rfl, hq⟩
     refine ⟨_, rfl, ?_⟩
     refine wa rfl <| wa rfl <| wZ ?_
     refine CW.ret ?_
     refine fin_ret2 rfl ?_
     exact ⟨by rw [hc.1, hc.2]; kernel_rfl, Step.dropR (L1 := []) (hs.callE hq)⟩
end Go.Gx
/-! PClean5 -/
namespace Go.Gx
open Go.Proofs Go.Proofs.Tryz Go.RowKit
set_option maxRecDepth 100000

def isCleanL (s : List UInt8) : Bool := (partsL s).all isName && decide ((partsL s).length ≤ 32)

theorem joinL_cons {x : List UInt8} {l : List (List UInt8)} (h : l ≠ []) : joinL (x :: l) = x ++ 47 :: joinL l := by
 cases l with
 | nil => exact absurd rfl h
 | cons y l => simp [joinL, List.intercalate, List.intersperse]
theorem joinL_one (x : List UInt8) : joinL [x] = x := by simp [joinL, List.intercalate]
theorem joinL_cc {c : UInt8} {p : List UInt8} {ps : List (List UInt8)} : joinL ((c :: p) :: ps) = c :: joinL (p :: ps) := by
 cases ps with
 | nil => rw [joinL_one, joinL_one]
 | cons y l => rw [joinL_cons (x := c :: p) (l := y :: l) (by simp), joinL_cons (x := p) (l := y :: l) (by simp)]; rfl
theorem joinL_splitL : ∀ s, joinL (splitL s) = s
 | [] => by rw [splitL, joinL_one]
 | c :: s => by
  have ih := joinL_splitL s
  rw [splitL]
  split
  ·rename_i h
   rw [joinL_cons (splitL_ne s), ih, h]
   rfl
  ·split
   ·rename_i h
    exact absurd h (splitL_ne s)
   ·rename_i p ps h
    rw [h] at ih
    rw [joinL_cc, ih]
theorem joinL_partsL (s : List UInt8) : joinL (partsL s) = s := by
 unfold partsL
 split
 ·rename_i h; rw [h]; rfl
 ·exact joinL_splitL s
theorem splitL_word : ∀ {p : List UInt8}, 47 ∉ p → splitL p = [p]
 | [], _ => rfl
 | c :: p, h => by
  have h1 : c ≠ 47 := fun e => h (by simp [e])
  rw [splitL, if_neg h1, splitL_word (p := p) (fun e => h (by simp [e]))]
theorem splitL_app : ∀ {p s : List UInt8}, 47 ∉ p → splitL (p ++ 47 :: s) = p :: splitL s
 | [], s, _ => by rw [List.nil_append, splitL, if_pos rfl]
 | c :: p, s, h => by
  have h1 : c ≠ 47 := fun e => h (by simp [e])
  rw [List.cons_append, splitL, if_neg h1, splitL_app (p := p) (fun e => h (by simp [e]))]
theorem isName_slash {p : List UInt8} (h : isName p = true) : 47 ∉ p := fun hm => by
 simp only [isName, Bool.and_eq_true, Bool.not_eq_true'] at h
 have := List.any_eq_true.2 ⟨47, hm, (by decide : badCh 47 = true)⟩
 rw [h.2] at this
 cases this
theorem isName_facts {p : List UInt8} (h : isName p = true) : p ≠ [] ∧ p ≠ [46] ∧ p ≠ [46, 46] := by
 simp only [isName, Bool.and_eq_true, decide_eq_true_eq] at h
 refine ⟨fun e => ?_, h.1.2.2.1, h.1.2.2.2⟩
 rw [e] at h
 simp at h
theorem splitL_joinL : ∀ {row : List (List UInt8)}, row ≠ [] → Named row → splitL (joinL row) = row
 | [x], _, h => by rw [joinL_one, splitL_word (isName_slash (h x (by simp)))]
 | x :: y :: l, _, h => by
  rw [joinL_cons (by simp), splitL_app (isName_slash (h x (by simp))), splitL_joinL (row := y :: l) (by simp) (fun p hp => h p (by simp at hp ⊢; exact .inr hp))]
theorem partsL_joinL {row : List (List UInt8)} (h : Named row) : partsL (joinL row) = row := by
 cases row with
 | nil => rfl
 | cons x l =>
  have hx := isName_facts (h x (by simp))
  have hne : joinL (x :: l) ≠ [] := by
   cases l with
   | nil => rw [joinL_one]; exact hx.1
   | cons y l => rw [joinL_cons (by simp)]; simp
  unfold partsL
  rw [if_neg hne]
  exact splitL_joinL (by simp) h
theorem cleanGo_id : ∀ {ps row : List (List UInt8)}, Named ps → cleanGo ps row = .ok (row ++ ps)
 | [], row, _ => by rw [cleanGo, List.append_nil]
 | p :: ps, row, h => by
  have h1 := h p (by simp)
  have hx := isName_facts h1
  rw [cleanGo, if_neg (fun e => e.elim hx.1 hx.2.1), if_neg hx.2.2, if_neg (by simp [h1]), cleanGo_id (fun q hq => h q (by simp [hq])), List.append_assoc]
  rfl
theorem cleanGo_named : ∀ {ps row r : List (List UInt8)}, Named row → cleanGo ps row = .ok r → Named r
 | [], row, r, h, e => by
  rw [cleanGo] at e
  cases e
  exact h
 | p :: ps, row, r, h, e => by
  rw [cleanGo] at e
  split at e
  ·exact cleanGo_named h e
  ·split at e
   ·split at e
    ·cases e
    ·exact cleanGo_named (fun q hq => h q (List.dropLast_subset _ hq)) e
   ·split at e
    ·cases e
    ·rename_i h4
     refine cleanGo_named (fun q hq => ?_) e
     rcases List.mem_append.1 hq with h' | h'
     ·exact h q h'
     ·rw [List.mem_singleton.1 h']; simpa using h4
theorem cleanGo_err : ∀ {ps row : List (List UInt8)} {e : Int}, cleanGo ps row = .error e → e ≠ 0
 | [], row, e, h => by rw [cleanGo] at h; cases h
 | p :: ps, row, e, h => by
  rw [cleanGo] at h
  split at h
  ·exact cleanGo_err h
  ·split at h
   ·split at h
    ·cases h; decide
    ·exact cleanGo_err h
   ·split at h
    ·cases h; decide
    ·exact cleanGo_err h
theorem clean_law (s : List UInt8) : (decide (cleanE s = 0) && decide (cleanS s = s)) = isCleanL s := by
 rw [Bool.eq_iff_iff]
 simp only [isCleanL, Bool.and_eq_true, decide_eq_true_eq, List.all_eq_true]
 constructor
 ·rintro ⟨h1, h2⟩
  unfold cleanE cleanS cleanR at *
  split at h1
  ·rename_i p hp
   rw [hp] at h2
   dsimp only at h2
   split at hp
   ·cases hp
   ·split at hp
    ·cases hp
    ·rename_i row hrow
     split at hp
     ·cases hp
     ·cases hp
      have hn := cleanGo_named (fun q hq => by cases hq) hrow
      have hp2 := partsL_joinL hn
      rw [h2] at hp2
      rw [hp2]
      exact ⟨hn, by omega⟩
  ·rename_i e hp
   exfalso
   split at hp
   ·cases hp; cases h1
   ·split at hp
    ·rename_i e' he
     cases hp
     exact absurd h1 (cleanGo_err he)
    ·split at hp
     ·cases hp; cases h1
     ·cases hp
 ·rintro ⟨h1, h2⟩
  have hn : Named (partsL s) := h1
  have hgo := cleanGo_id (row := []) hn
  rw [List.nil_append] at hgo
  have hj := joinL_partsL s
  have hl : s.length ≤ 4096 := by
   have a1 := join_len (partsL s)
   have a2 := named_join hn
   rw [hj] at a1
   omega
  have hc : cleanR s = .ok s := by
   unfold cleanR
   rw [if_neg (by omega), hgo]
   show (if 32 < (partsL s).length then _ else _) = _
   rw [if_neg (by omega), hj]
  have := clean_ok hc
  exact ⟨this.2, this.1⟩
end Go.Gx
/-! PClean6 -/
namespace Go.Gx
open Go.Proofs Go.Proofs.Tryz Go.RowKit
set_option maxRecDepth 100000

theorem isClean_spec {s : List UInt8} (w0 : World) (hg : Gl w0) (hs1 : s.length ≤ 9223372036854775807) : Calls Tryz.prog 93 #[str s] w0 (Ret0 (.bool (isCleanL s)) w0) := by
 have hs : Step [] [] w0 w0 := Step.refl w0
 have hlaw := clean_law s
 by_cases h1 : cleanE s = 0
 ·by_cases h2 : cleanS s = s
  ·rw [decide_eq_true h1, decide_eq_true h2] at hlaw
   rw [← hlaw]
   refine calls (n := 17) Tryz.func93 rfl rfl rfl ?_
   refine cQ <| cR <| wa rfl <| wZ <| cQ <| cR <| wm rfl ?_
   refine wE rfl (run_call en45 rfl rfl) (clean_spec _ hg hs1) ?_
   rintro e w ⟨rfl, hq⟩
   refine ⟨_, rfl, ?_⟩
   replace hs := hs.callE hq
   refine wm rfl <| wx rfl rfl rfl <| wx rfl rfl rfl <| wa rfl <| wa rfl <| wZ <| cQ <| cR <| wm rfl <| wV rfl (run_bT (run_eql rfl rfl) (by omega)) <| wm rfl <| WL.yes rfl rfl rfl <| wm rfl <| WL.yes rfl rfl rfl <| wm rfl <| WL.yes rfl rfl rfl <| wV rfl (run_bT (run_strEq rfl rfl) (by exact h2)) <| wV rfl (run_pickT rfl) <| wa rfl <| wZ ?_
   refine CW.ret ?_
   refine fin_ret1 rfl ?_
   exact ⟨rfl, hs⟩
  ·rw [decide_eq_true h1, decide_eq_false h2] at hlaw
   rw [← hlaw]
   refine calls (n := 17) Tryz.func93 rfl rfl rfl ?_
   refine cQ <| cR <| wa rfl <| wZ <| cQ <| cR <| wm rfl ?_
   refine wE rfl (run_call en45 rfl rfl) (clean_spec _ hg hs1) ?_
   rintro e w ⟨rfl, hq⟩
   refine ⟨_, rfl, ?_⟩
   replace hs := hs.callE hq
   refine wm rfl <| wx rfl rfl rfl <| wx rfl rfl rfl <| wa rfl <| wa rfl <| wZ <| cQ <| cR <| wm rfl <| wV rfl (run_bT (run_eql rfl rfl) (by omega)) <| wm rfl <| WL.yes rfl rfl rfl <| wm rfl <| WL.yes rfl rfl rfl <| wm rfl <| WL.yes rfl rfl rfl <| wV rfl (run_bF (run_strEq rfl rfl) (by exact h2)) <| wV rfl (run_pickT rfl) <| wa rfl <| wZ ?_
   refine CW.ret ?_
   refine fin_ret1 rfl ?_
   exact ⟨rfl, hs⟩
 ·rw [decide_eq_false h1] at hlaw
  rw [← hlaw]
  refine calls (n := 17) Tryz.func93 rfl rfl rfl ?_
  refine cQ <| cR <| wa rfl <| wZ <| cQ <| cR <| wm rfl ?_
  refine wE rfl (run_call en45 rfl rfl) (clean_spec _ hg hs1) ?_
  rintro e w ⟨rfl, hq⟩
  refine ⟨_, rfl, ?_⟩
  replace hs := hs.callE hq
  refine wm rfl <| wx rfl rfl rfl <| wx rfl rfl rfl <| wa rfl <| wa rfl <| wZ <| cQ <| cR <| wm rfl <| wV rfl (run_bF (run_eql rfl rfl) (by omega)) <| wm rfl <| WL.no rfl rfl rfl (.inl rfl) <| WL.no rfl rfl rfl (.inl rfl) <| WL.no rfl rfl rfl (.inl rfl) <| wV rfl (run_pickF rfl) <| wa rfl <| wZ ?_
  refine CW.ret ?_
  refine fin_ret1 rfl ?_
  exact ⟨rfl, hs⟩

theorem refIsClean_spec {s : List UInt8} (w0 : World) (hs1 : s.length < 4294967281) : Calls Tryz.prog 73 #[str s] w0 (Ret0 (.bool (isCleanL s)) w0) := by
 have hs : Step [] [] w0 w0 := Step.refl w0
 have hpl := partsL_len s
 have hple : ∀ p ∈ partsL s, p.length ≤ s.length := fun p h => partsL_le h
 refine calls (n := 22) Tryz.func73 rfl rfl rfl ?_
 refine cQ <| cR <| wa rfl <| wZ <| cQ <| cR <| wm rfl ?_
 refine wE rfl (run_call en89 rfl rfl) (refParts_spec _ hs1) ?_
 rintro e w ⟨u, Lp, rfl, hu, hq⟩
 refine ⟨_, rfl, ?_⟩
 have hs := hq
 have hform := hu.form
 obtain ⟨a, c, hq2⟩ := hform
 subst hq2
 refine wa rfl <| wZ ?_
 have hobt : ∃ ps, partsL s = ps := ⟨_, rfl⟩
 obtain ⟨ps, hps⟩ := hobt
 have hic : isCleanL s = (ps.all isName && decide (ps.length ≤ 32)) := by rw [isCleanL, hps]
 rw [hps] at hpl hu hple
 rw [hic]
 refine cQ <| cQ <| cR <| wa rfl <| wZ <| CW.block ?_
 refine CW.loop (fun m f w' => ∃ i, i ≤ ps.length ∧ m = ps.length - i ∧ (ps.all isName = (ps.drop i).all isName) ∧ Step [] Lp w0 w' ∧ Holds f [(3, .slice a ps.length c), (4, .int .i64 i)]) (m := ps.length) ?_ ?_
 ·exact ⟨0, by omega, by omega, rfl, hs, by rw [← hps]; rfl, rfl, trivial⟩
 ·clear hs hq
  rintro m f w ⟨i, hi, rfl, hall, hs, hf⟩
  have hobt := hf.chain
  obtain ⟨g, rfl⟩ := hobt
  by_cases hlt : i < ps.length
  ·have hobt : ∃ p, ps[i] = p := ⟨_, rfl⟩
   obtain ⟨p, hp⟩ := hobt
   rw [List.drop_eq_getElem_cons hlt, hp, List.all_cons] at hall
   have hpi : ps[i]? = some p := by rw [List.getElem?_eq_getElem hlt, hp]
   have hpl1 := hple p (List.mem_of_getElem? hpi)
   have hsm := hu.some1 (by omega)
   obtain ⟨bp, cp, more, hq1, hqL, hcp⟩ := hsm
   cases hq1
   subst hqL
   have hcl : ps.length ≤ c := by
    rw [List.length_append, strs_len] at hcp
    omega
   have hcell : w.cell? ⟨bp, 0 + i * 1, none⟩ = some (str p) := by
    rw [cell_blk hs.hd, Nat.zero_add, Nat.mul_one, List.getElem?_append_left (by rw [strs_len]; exact hlt)]
    simp [strs, hpi]
   refine cQ <| cQ <| cR <| wm rfl <| wm rfl <| wV rfl (run_lenSl underlying88 rfl) <| wV rfl (run_bT (run_lss rfl rfl) (by omega)) <| wZ ?_
   by_cases h4 : isName p = false
   ·rw [h4, Bool.false_and] at hall
    repeat (first | refine cQ ?_ | refine CW.block ?_ | refine cK ?_ | refine CW.condT rfl ?_)
    refine cR <| wm rfl <| wm rfl <| wV rfl (run_ixSlN underlying88 ty9 rfl rfl (by omega)) <| wV rfl (run_load1 ty9 rfl (hcell)) ?_
    refine wE rfl (run_call en90 rfl rfl) (refIsName_spec h4 _ (by omega)) ?_
    rintro e w ⟨rfl, hq⟩
    refine ⟨_, rfl, ?_⟩
    replace hs := hs.callE hq
    refine wV rfl (run_not rfl) <| wZ ?_
    repeat (first | refine cQ ?_ | refine CW.condT rfl ?_)
    refine cR <| wa rfl <| wZ ?_
    refine CW.ret ?_
    refine fin_ret1 rfl ?_
    rw [hall]
    exact ⟨rfl, Step.dropR (L1 := []) hs⟩
   ·have h5 : isName p = true := by simpa using h4
    rw [h5, Bool.true_and] at hall
    repeat (first | refine cQ ?_ | refine CW.block ?_ | refine cK ?_ | refine CW.condT rfl ?_)
    refine cR <| wm rfl <| wm rfl <| wV rfl (run_ixSlN underlying88 ty9 rfl rfl (by omega)) <| wV rfl (run_load1 ty9 rfl (hcell)) ?_
    refine wE rfl (run_call en90 rfl rfl) (refIsName_spec h5 _ (by omega)) ?_
    rintro e w ⟨rfl, hq⟩
    refine ⟨_, rfl, ?_⟩
    replace hs := hs.callE hq
    refine wV rfl (run_not rfl) <| wZ ?_
    repeat (first | refine cK ?_ | refine CW.condF rfl ?_)
    refine cR <| wm rfl <| wV rfl (run_add (c := ((i + 1 : Nat) : Int)) rfl rfl (by omega) (by omega)) <| wa rfl <| wZ ?_
    refine (show _ ∧ _ from ⟨rfl, _, ?_, i + 1, by omega, rfl, hall, hs, rfl, rfl, trivial⟩)
    omega
  ·have hii : i = ps.length := by omega
   rw [hii, List.drop_length, List.all_nil] at hall
   rw [hall, Bool.true_and]
   by_cases h6 : ps.length ≤ 32
   ·rw [decide_eq_true h6]
    refine cQ <| cQ <| cR <| wm rfl <| wm rfl <| wV rfl (run_lenSl underlying88 rfl) <| wV rfl (run_bF (run_lss rfl rfl) (by omega)) <| wZ ?_
    repeat (first | refine cQ ?_ | refine CW.exit ?_ | refine CW.condF rfl ?_)
    refine cR <| wm rfl <| wV rfl (run_lenSl underlying88 rfl) <| wV rfl (run_bT (run_leq rfl rfl) (by omega)) <| wa rfl <| wZ ?_
    refine CW.ret ?_
    refine fin_ret1 rfl ?_
    exact ⟨rfl, Step.dropR (L1 := []) hs⟩
   ·rw [decide_eq_false h6]
    refine cQ <| cQ <| cR <| wm rfl <| wm rfl <| wV rfl (run_lenSl underlying88 rfl) <| wV rfl (run_bF (run_lss rfl rfl) (by omega)) <| wZ ?_
    repeat (first | refine cQ ?_ | refine CW.exit ?_ | refine CW.condF rfl ?_)
    refine cR <| wm rfl <| wV rfl (run_lenSl underlying88 rfl) <| wV rfl (run_bF (run_leq rfl rfl) (by omega)) <| wa rfl <| wZ ?_
    refine CW.ret ?_
    refine fin_ret1 rfl ?_
    exact ⟨rfl, Step.dropR (L1 := []) hs⟩
end Go.Gx
