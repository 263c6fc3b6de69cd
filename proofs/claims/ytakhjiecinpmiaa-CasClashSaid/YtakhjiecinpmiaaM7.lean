/- CasClash, walked. A row's arguments opened: numbers, truths, bytes. CasClashSaid: of two blobs in an empty Store with room, of one digest the second is refused as long as the first one is whole there, and the first stays; else both lie there: the law returns true, the arguments read as they did; no condition. -/
import Derived.Test.YtakhjiecinpmiaaM6
import Derived.Test.YtakhjiecinpmiaaRows
import Derived.ProofKit
import Derived.OpenShut
import Derived.JoinedCond
import Derived.Deep.Slices
import Derived.Deep.Strs
import Derived.ChangeMaps5
import Derived.SliceStrings
/-! Clash -/
namespace Go.Gx
open Go.Proofs
set_option linter.unusedVariables false
set_option linter.unusedSimpArgs false
set_option maxRecDepth 100000
theorem fits_front {x : List UInt8} {k : Nat} (h1 : 1 ≤ k) (h2 : k ≤ 32) : fitsL (frontL x k) k = true := by
  unfold fitsL
  rw [decide_eq_true_eq]
  refine ⟨by omega, by omega, ?_⟩
  rw [Int.toNat_natCast]
  unfold frontL cutD
  have h : ((shaL x).take k).length = k := by rw [List.length_take, shaL_len]; omega
  rw [List.take_append_of_le_length (by rw [h]; exact Nat.le_refl _), List.take_of_length_le (by rw [h]; exact Nat.le_refl _)]
attribute [local irreducible] shaL cutD frontL
/-- One blob in a Store. -/
def oneS (k last puts : Nat) (d x : List UInt8) (st : Nat) : AS := ⟨k, 67108864, last, 0, puts, [⟨d, x, st⟩]⟩
theorem oneS_ok {k last puts st : Nat} {d x : List UInt8} (h1 : 1 ≤ k) (h2 : k ≤ 32) (hd : d.length = 32) (hx : x.length ≤ 8193) : (oneS k last puts d x st).Ok :=
  ⟨h1, h2, Nat.le_refl _, by simp [oneS, SortedX], fun b hb => by simp [oneS] at hb; rw [hb]; exact hd, by simp [oneS, usedX]; omega⟩
theorem put_first {k : Nat} {a : List UInt8} (h2 : k ≤ 32) (ha : a.length ≤ 8192) : (newS k 67108864).put a = (frontL a k, 0, oneS k 1 1 (frontL a k) a 1) := by
  unfold AS.put
  simp only [newS, findX, List.find?_nil, AS.lay, insX, usedX, List.map_cons, List.map_nil, List.sum_cons, List.sum_nil]
  rw [if_neg (by omega), if_pos (by omega)]
  rfl
theorem plant_one {k : Nat} {d a y : List UInt8} (hf : fitsL d k = true) (hy : y.length ≤ 8193) (h2 : k ≤ 32) : (oneS k 1 1 d a 1).plant d y = (0, oneS k 2 1 d y 2) := by
  unfold AS.plant
  simp only [oneS, hf, Bool.true_eq_false, if_false, AS.lay, insX, if_true, usedX, List.map_cons, List.map_nil, List.sum_cons, List.sum_nil]
  rw [if_neg (by omega), if_pos (by omega)]
theorem find_one (d x : List UInt8) (st : Nat) : findX d [⟨d, x, st⟩] = some ⟨d, x, st⟩ := by simp [findX]
theorem one_whole {k last puts st : Nat} {d x : List UInt8} : (oneS k last puts d x st).whole d = decide (frontL x k = d) := by
  unfold AS.whole oneS
  rw [find_one]
theorem one_raw {k last puts st : Nat} {d x : List UInt8} : (oneS k last puts d x st).raw d = x := by
  unfold AS.raw oneS
  rw [find_one]
theorem one_has {k last puts st : Nat} {d x : List UInt8} : (oneS k last puts d x st).has d = true := by
  unfold AS.has oneS
  rw [find_one]
  rfl
/-- Does the second one clash? -/
def clashes (k : Nat) (d x b : List UInt8) : Prop := frontL b k = d ∧ frontL x k = d ∧ ¬ x = b
theorem put_second {k last puts st : Nat} {d x b : List UInt8} (hk : 1 ≤ k) (h2 : k ≤ 32) (hd : d.length = 32) (hx : x.length ≤ 8193) (hb : b.length ≤ 8192) :
    (clashes k d x b → ((oneS k last puts d x st).put b).1 = zD ∧ ((oneS k last puts d x st).put b).2.1 = 44 ∧ ((oneS k last puts d x st).put b).2.2 = oneS k last (puts + 1) d x st) ∧
    (¬ clashes k d x b → ((oneS k last puts d x st).put b).2.1 = 0) := by
  unfold AS.put
  simp only [oneS, findX, List.find?_cons, List.find?_nil]
  rw [if_neg (by omega)]
  unfold clashes
  by_cases h : d = frontL b k
  · subst h
    simp only [decide_true]
    by_cases hxb : x = b
    · subst hxb
      exact ⟨fun h => absurd rfl h.2.2, fun _ => by simp⟩
    · by_cases hxk : frontL x k = frontL b k
      · simp only [hxb, hxk, if_true, if_false]
        exact ⟨fun _ => by simp, fun h => by simp [hxb] at h⟩
      · simp only [hxb, hxk, if_false]
        refine ⟨fun h => by simp at h, fun _ => ?_⟩
        simp only [AS.lay, insX, if_true, usedX, List.map_cons, List.map_nil, List.sum_cons, List.sum_nil]
        rw [if_pos (by omega)]
  · simp only [h, decide_false]
    refine ⟨fun h1 => absurd h1.1.symm h, fun _ => ?_⟩
    have hle : usedX (insX ⟨frontL b k, b, last + 1⟩ [⟨d, x, st⟩]) ≤ 67108864 := by
      have := used_ins (X := [⟨d, x, st⟩]) (by simp [SortedX]) ⟨frontL b k, b, last + 1⟩
      simp only [findX, List.find?_cons, List.find?_nil, h, decide_false, usedX, List.map_cons, List.map_nil, List.sum_cons, List.sum_nil] at this ⊢
      omega
    simp only [AS.lay]
    rw [if_pos hle]
theorem lay_k {s s' : AS} {d x : List UInt8} (h : s.lay d x = some s') : s'.k = s.k := by
  unfold AS.lay at h
  split at h
  · obtain rfl := (Option.some.inj h).symm; rfl
  · cases h
theorem put_k (s : AS) (y : List UInt8) : (s.put y).2.2.k = s.k := by
  have hgo : ∀ r : List UInt8 × Nat × AS, r = (match ({ s with puts := s.puts + 1 } : AS).lay (frontL y s.k) y with | some s2 => (frontL y s.k, 0, s2) | none => (zD, 43, { s with puts := s.puts + 1 })) → r.2.2.k = s.k := by
    intro r hr
    cases hl : ({ s with puts := s.puts + 1 } : AS).lay (frontL y s.k) y with
    | none => rw [hl] at hr; rw [hr]
    | some s2 => rw [hl] at hr; subst hr; exact (lay_k hl).trans rfl
  unfold AS.put
  simp only
  split
  · rfl
  · split
    · split
      · rfl
      · split
        · rfl
        · exact hgo _ rfl
    · exact hgo _ rfl
set_option maxHeartbeats 4000000 in
theorem clash_spec {wd : Int} (hw : -9223372036854775808 ≤ wd ∧ wd ≤ 9223372036854775807) {va vb : Value} {a b : List UInt8} {spoil : Bool} (w0 : World) (ha : Sl w0 1 va a.length (u8s a)) (hra : Room va) (hb : Sl w0 1 vb b.length (u8s b)) (hrb : Room vb) (hna : a.length ≤ 9223372036854775807) (hnb : b.length ≤ 9223372036854775807) :
    Calls Try.prog 3 #[.int .i64 wd, va, vb, .bool spoil] w0 (Ret0 (.bool true) w0) := by
  have hs : Step [] [] w0 w0 := Step.refl w0
  have hobt := ha.form
  obtain ⟨aa, ca, rfl⟩ := hobt
  have hobt := hb.form
  obtain ⟨ab, cb, rfl⟩ := hobt
  by_cases hla : a.length ≤ 8192
  · by_cases hlb : b.length ≤ 8192
    · have hobt : ∃ k, k = 1 + roundZ wd 32 := ⟨_, rfl⟩
      obtain ⟨k, hke⟩ := hobt
      have hk1 : 1 ≤ k := by omega
      have hk2 : k ≤ 32 := by have := roundZ_lt (a := wd) (n := 32) (by decide); omega
      have hobt : ∃ d, frontL a k = d := ⟨_, rfl⟩
      obtain ⟨d, hd⟩ := hobt
      have hd32 : d.length = 32 := by rw [← hd]; exact frontL_len hk2
      have hdl : (u8s d).length = 32 := by rw [u8s, List.length_map, hd32]
      have hfit : fitsL d k = true := by rw [← hd]; exact fits_front hk1 hk2
      have hfresh := fun w1 => fresh_spec (a := wd) (c := 67108864) hw (by decide) w1
      rw [← hke, show roundZ 67108864 67108865 = 67108864 by decide] at hfresh
      have hput1 := fun {bs L D v} (w1 : World) hR hl h1 h2 h3 => put_abs (bs := bs) (s := newS k 67108864) (L := L) (D := D) (v := v) (y := a) (n := 0) (w0 := w1) hR (newS_ok hk1 hk2 (by decide)) newS_few (by decide) hl h1 h2 h3 (by omega)
      simp only [put_first hk2 hla, hd] at hput1
      have hofa := fun {w1} (h : Sl w1 1 (.slice aa a.length ca) a.length (u8s a)) => ofR_spec (k := k) w1 h (by omega) hk1 hk2
      rw [hd] at hofa
      refine calls (n := 147) Try.func3 rfl rfl rfl ?_
      repeat (first | refine CW.seq ?_ | refine CW.block ?_ | refine CW.skip ?_ | refine CW.label ?_ | refine CW.exit ?_ | refine CW.condT rfl ?_ | refine CW.condF rfl ?_)
      refine CW.reg ?_
      refine WL.val rfl (run_assign) ?_
      refine WL.nil ?_
      repeat (first | refine CW.seq ?_ | refine CW.block ?_ | refine CW.skip ?_ | refine CW.label ?_ | refine CW.exit ?_ | refine CW.condT rfl ?_ | refine CW.condF rfl ?_)
      refine CW.reg ?_
      refine WL.val rfl (run_move) ?_
      refine WL.val rfl (run_lenSl Try.underlying22 rfl) ?_
      refine WL.val rfl (run_bF (run_gtr rfl rfl) (by omega)) ?_
      refine WL.val rfl (run_move) ?_
      first | (refine WL.yes rfl rfl rfl ?_; refine WL.val rfl (run_move) ?_) | refine WL.no rfl rfl rfl (.inl rfl) ?_ | refine WL.no rfl rfl rfl (.inr rfl) ?_
      first | (refine WL.yes rfl rfl rfl ?_; refine WL.val rfl (run_lenSl Try.underlying22 rfl) ?_) | refine WL.no rfl rfl rfl (.inl rfl) ?_ | refine WL.no rfl rfl rfl (.inr rfl) ?_
      refine WL.yes rfl rfl rfl ?_
      refine WL.val rfl (run_bF (run_gtr rfl rfl) (by omega)) ?_
      first | refine WL.val rfl (run_pickT rfl) ?_ | refine WL.val rfl (run_pickF rfl) ?_
      refine WL.nil ?_
      repeat (first | refine CW.seq ?_ | refine CW.block ?_ | refine CW.skip ?_ | refine CW.label ?_ | refine CW.exit ?_)
      first | refine CW.condP rfl (fun h => ?_) (fun h => ?_) | refine CW.cond rfl (fun h => ?_) (fun h => ?_)
      · cases h
      repeat (first | refine CW.seq ?_ | refine CW.block ?_ | refine CW.skip ?_ | refine CW.label ?_ | refine CW.exit ?_ | refine CW.condT rfl ?_ | refine CW.condF rfl ?_)
      refine CW.reg ?_
      refine WL.val rfl (run_move) ?_
      refine WL.enter rfl (run_call en11 rfl rfl) (hfresh _) ?_
      rintro e w ⟨bs, L1, rfl, hR, hq⟩
      refine ⟨_, rfl, ?_⟩
      replace hs := hs.callAll0 hq
      refine WL.val rfl (run_assign) ?_
      refine WL.nil ?_
      replace hs : Step [] ([] ++ (L1 ++ [])) w0 w := by rw [List.nil_append, List.append_nil]; exact hs
      repeat (first | refine CW.seq ?_ | refine CW.block ?_ | refine CW.skip ?_ | refine CW.label ?_ | refine CW.exit ?_ | refine CW.condT rfl ?_ | refine CW.condF rfl ?_)
      refine CW.reg ?_
      refine WL.val rfl (run_move) ?_
      refine WL.val rfl (run_ptrNil Try.underlying24 rfl rfl) ?_
      refine WL.nil ?_
      repeat (first | refine CW.seq ?_ | refine CW.block ?_ | refine CW.skip ?_ | refine CW.label ?_ | refine CW.exit ?_)
      first | refine CW.condP rfl (fun h => ?_) (fun h => ?_) | refine CW.cond rfl (fun h => ?_) (fun h => ?_)
      · cases h
      repeat (first | refine CW.seq ?_ | refine CW.block ?_ | refine CW.skip ?_ | refine CW.label ?_ | refine CW.exit ?_ | refine CW.condT rfl ?_ | refine CW.condF rfl ?_)
      refine CW.reg ?_
      refine WL.val rfl (run_move) ?_
      refine WL.val rfl (run_move) ?_
      refine WL.enter rfl (run_call en12 rfl rfl) (hput1 _ hR (Own.live hs) (ha.step0 hs.clear) hra (Own.old hs ha)) ?_
      rintro e w ⟨L2, D2, rfl, hR2, hq⟩
      refine ⟨_, rfl, ?_⟩
      replace hs := Own.put hs hq
      refine WL.val rfl (run_move) ?_
      refine WL.val rfl (run_extract rfl rfl) ?_
      refine WL.val rfl (run_extract rfl rfl) ?_
      refine WL.alloc ty27 rfl hs (fun b10 w hs => ?_)
      first | refine WL.storeAll ty27 rfl rfl ((hdl)) (Cells1.u8s _) hs (by first | rfl | assumption) (fun w hs => ?_) | refine WL.storeAll_1 ty27 rfl rfl ((hdl)) (Cells1.u8s _) hs (by first | rfl | assumption) (fun w hs => ?_) | refine WL.storeAll_2 ty27 rfl rfl ((hdl)) (Cells1.u8s _) hs (by first | rfl | assumption) (fun w hs => ?_) | refine WL.storeAll_3 ty27 rfl rfl ((hdl)) (Cells1.u8s _) hs (by first | rfl | assumption) (fun w hs => ?_) | refine WL.storeAll_4 ty27 rfl rfl ((hdl)) (Cells1.u8s _) hs (by first | rfl | assumption) (fun w hs => ?_) | refine WL.storeAll ty27 rfl rfl ((hdl)) (Cells1.u8s _) hs (by first | rfl | assumption) (fun w hs => ?_)
      refine WL.val rfl (run_assign) ?_
      refine WL.nil ?_
      repeat (first | refine CW.seq ?_ | refine CW.block ?_ | refine CW.skip ?_ | refine CW.label ?_ | refine CW.exit ?_ | refine CW.condT rfl ?_ | refine CW.condF rfl ?_)
      refine CW.quiet mixedP (by kernel_rfl) hs ?_
      refine QL.val rfl (fun w hs => run_move) ?_
      refine QL.val rfl (fun w hs => run_bF (run_neq rfl rfl) (by decide)) ?_
      refine QL.val rfl (fun w hs => run_move) ?_
      refine QL.yes rfl rfl rfl ?_
      refine QL.val rfl (fun w hs => run_loadN ty27 rfl hdl hs.a0) ?_
      first | (refine QL.yes rfl rfl rfl ?_; refine QL.val rfl (fun w hs => run_move) ?_) | refine QL.no rfl rfl rfl (.inl rfl) ?_ | refine QL.no rfl rfl rfl (.inr rfl) ?_
      refine QL.yes rfl rfl rfl ?_
      refine QL.enter rfl (fun w => run_call en14 rfl rfl) (fun w hs => width_abs hR2 (oneS_ok hk1 hk2 hd32 (by omega)) (Own.live (A := [_]) hs)) ?_
      first | (refine QL.yes rfl rfl rfl ?_; refine QL.val rfl (fun w hs => run_move) ?_) | refine QL.no rfl rfl rfl (.inl rfl) ?_ | refine QL.no rfl rfl rfl (.inr rfl) ?_
      refine QL.yes rfl rfl rfl ?_
      refine QL.enter rfl (fun w => run_call en13 rfl rfl) (fun w hs => hofa (ha.step0 hs.clear)) ?_
      refine QL.yes rfl rfl rfl ?_
      refine QL.val rfl (fun w hs => run_bF (run_neDig hd32 hd32 rfl rfl) (fun h => h rfl)) ?_
      first | refine QL.val rfl (fun w hs => run_pickT rfl) ?_ | refine QL.val rfl (fun w hs => run_pickF rfl) ?_
      refine QL.nil (fun w hs => ?_)
      repeat (first | refine CW.seq ?_ | refine CW.block ?_ | refine CW.skip ?_ | refine CW.label ?_ | refine CW.exit ?_)
      first | refine CW.condP rfl (fun h => ?_) (fun h => ?_) | refine CW.cond rfl (fun h => ?_) (fun h => ?_)
      · cases h
      repeat (first | refine CW.seq ?_ | refine CW.block ?_ | refine CW.skip ?_ | refine CW.label ?_ | refine CW.exit ?_ | refine CW.condT rfl ?_ | refine CW.condF rfl ?_)
      refine CW.reg ?_
      refine WL.val rfl (run_move) ?_
      refine WL.nil ?_
      cases spoil
      · repeat (first | refine CW.seq ?_ | refine CW.block ?_ | refine CW.skip ?_ | refine CW.label ?_ | refine CW.exit ?_)
        first | refine CW.condP rfl (fun h => ?_) (fun h => ?_) | refine CW.cond rfl (fun h => ?_) (fun h => ?_)
        · cases h
        have hobt : ∃ Lx Dx la st x, PRep bs (oneS k la 1 d x st) Dx Lx ∧ Step [] ((b10, blk 27 (u8s d)) :: (Lx ++ Dx)) w0 w ∧ la ≤ 2 ∧ x.length ≤ 8193 := ⟨L2, D2 ++ [], 1, 1, a, hR2, hs, by omega, by omega⟩
        obtain ⟨Lx, Dx, la, st, x, hRx, hsx, hla2, hxl⟩ := hobt
        replace hs := hsx
        have okx : (oneS k la 1 d x st).Ok := oneS_ok hk1 hk2 hd32 hxl
        have hfew : (oneS k la 1 d x st).Few 2 := ⟨hla2, Nat.zero_le _, Nat.le_succ 1⟩
        have hwhv : (oneS k la 1 d x st).whole d = decide (frontL x k = d) := one_whole
        have hrawv : (oneS k la 1 d x st).raw d = x := one_raw
        have hhasv : (oneS k la 1 d x st).has d = true := one_has
        have hwh := fun {w1} (hl : Lives (Lx ++ Dx) w1) => whole_abs hRx okx hl hd32
        have hrw := fun {w1} (hl : Lives (Lx ++ Dx) w1) => raw_abs hRx okx hl hd32
        rw [hwhv] at hwh
        rw [hrawv, hhasv] at hrw
        have hobt := put_second (k := k) (last := la) (puts := 1) (st := st) (d := d) (x := x) (b := b) hk1 hk2 hd32 hxl hlb
        obtain ⟨c1, c2⟩ := hobt
        have hdb : (frontL b k).length = 32 := frontL_len hk2
        have hdbl : (u8s (frontL b k)).length = 32 := by rw [u8s, List.length_map, hdb]
        have hofb := fun {w1} (h : Sl w1 1 (.slice ab b.length cb) b.length (u8s b)) => ofR_spec (k := k) w1 h (by omega) hk1 hk2
        have hzl : (u8s zD).length = 32 := by rw [u8s, List.length_map, zD_len]
        have hsame := fun {w1 u1 u2} h1 h2 => same1_spec (u := u1) (v := u2) (x := x) (y := b) w1 h1 h2 (by omega) (by omega)
        have hput2 := fun {D w1} (hR : PRep bs (oneS k la 1 d x st) D Lx) (hl : Lives (Lx ++ D) w1) h1 h3 => put_abs (v := .slice ab b.length cb) (y := b) (n := 2) (w0 := w1) hR okx hfew (by decide) hl h1 hrb h3 (by omega)
        by_cases hcl : clashes k d x b
        · have hobt := c1 hcl
          obtain ⟨e1, e2, e3⟩ := hobt
          obtain ⟨hc1, hc2, hc3⟩ := hcl
          simp only [e1, e2, e3] at hput2
          rw [hc1] at hofb
          have okz : (oneS k la 2 d x st).Ok := oneS_ok hk1 hk2 hd32 hxl
          have hrawz : (oneS k la 2 d x st).raw d = x := one_raw
          have hhasz : (oneS k la 2 d x st).has d = true := one_has
          have hrw2 := fun {L D w1} (hR : PRep bs (oneS k la 2 d x st) D L) (hl : Lives (L ++ D) w1) => raw_abs hR okz hl hd32
          rw [hrawz, hhasz] at hrw2
          rw [decide_eq_true hc2] at hwh
          simp only [decide_eq_false hc3] at hsame
          have hsame2 := fun {w1 u1 u2} h1 h2 => same1_spec (u := u1) (v := u2) (x := x) (y := x) w1 h1 h2 (by omega) (by omega)
          simp only [decide_true] at hsame2
          repeat (first | refine CW.seq ?_ | refine CW.block ?_ | refine CW.skip ?_ | refine CW.label ?_ | refine CW.exit ?_ | refine CW.condT rfl ?_ | refine CW.condF rfl ?_)
          refine CW.reg ?_
          refine WL.val rfl (run_move) ?_
          refine WL.val rfl (run_loadN ty27 rfl hdl hs.a0) ?_
          refine WL.enter rfl (run_call en16 rfl rfl) (hwh (Own.live (A := [_]) hs)) ?_
          rintro e w ⟨rfl, hq⟩
          refine ⟨_, rfl, ?_⟩
          replace hs := hs.callE hq
          refine WL.val rfl (run_assign) ?_
          refine WL.nil ?_
          repeat (first | refine CW.seq ?_ | refine CW.block ?_ | refine CW.skip ?_ | refine CW.label ?_ | refine CW.exit ?_ | refine CW.condT rfl ?_ | refine CW.condF rfl ?_)
          refine CW.reg ?_
          refine WL.val rfl (run_move) ?_
          refine WL.val rfl (run_loadN ty27 rfl hdl hs.a0) ?_
          refine WL.enter rfl (run_call en17 rfl rfl) (hrw (Own.live (A := [_]) hs)) ?_
          rintro e w ⟨v', Lv', rfl, hv', hq⟩
          refine ⟨_, rfl, ?_⟩
          replace hs := Own.keep (A := [_]) hs hq
          refine WL.val rfl (run_move) ?_
          refine WL.val rfl (run_extract rfl rfl) ?_
          refine WL.val rfl (run_extract rfl rfl) ?_
          refine WL.val rfl (run_assign) ?_
          refine WL.val rfl (run_assign) ?_
          refine WL.nil ?_
          have hnow : Held (Lv' ++ Dx) v' x := ⟨Lv', hv', fun p hp => List.mem_append_left _ hp⟩
          have hobt := hnow.form
          obtain ⟨xa, xc, rfl⟩ := hobt
          have hRy := hRx.mono (D' := Lv' ++ Dx) fun p hp => List.mem_append_right _ hp
          repeat (first | refine CW.seq ?_ | refine CW.block ?_ | refine CW.skip ?_ | refine CW.label ?_ | refine CW.exit ?_ | refine CW.condT rfl ?_ | refine CW.condF rfl ?_)
          refine CW.reg ?_
          refine WL.val rfl (run_move) ?_
          refine WL.val rfl (run_move) ?_
          refine WL.enter rfl (run_call en12 rfl rfl) (hput2 hRy (Own.live (A := [_]) hs) (hb.step0 hs.clear) (Own.old (A := [_]) hs hb)) ?_
          rintro e w ⟨L4, D4, rfl, hR4, hq⟩
          refine ⟨_, rfl, ?_⟩
          replace hs := Own.put (A := [_]) hs hq
          refine WL.val rfl (run_move) ?_
          refine WL.val rfl (run_extract rfl rfl) ?_
          refine WL.val rfl (run_extract rfl rfl) ?_
          refine WL.alloc ty27 rfl hs (fun b17 w hs => ?_)
          first | refine WL.storeAll ty27 rfl rfl ((hzl)) (Cells1.u8s _) hs (by first | rfl | assumption) (fun w hs => ?_) | refine WL.storeAll_1 ty27 rfl rfl ((hzl)) (Cells1.u8s _) hs (by first | rfl | assumption) (fun w hs => ?_) | refine WL.storeAll_2 ty27 rfl rfl ((hzl)) (Cells1.u8s _) hs (by first | rfl | assumption) (fun w hs => ?_) | refine WL.storeAll_3 ty27 rfl rfl ((hzl)) (Cells1.u8s _) hs (by first | rfl | assumption) (fun w hs => ?_) | refine WL.storeAll_4 ty27 rfl rfl ((hzl)) (Cells1.u8s _) hs (by first | rfl | assumption) (fun w hs => ?_) | refine WL.storeAll ty27 rfl rfl ((hzl)) (Cells1.u8s _) hs (by first | rfl | assumption) (fun w hs => ?_)
          refine WL.val rfl (run_assign) ?_
          refine WL.nil ?_
          have hnow4 := hnow.mono (D' := D4 ++ (Lv' ++ Dx)) fun p hp => List.mem_append_right _ hp
          repeat (first | refine CW.seq ?_ | refine CW.block ?_ | refine CW.skip ?_ | refine CW.label ?_ | refine CW.exit ?_ | refine CW.condT rfl ?_ | refine CW.condF rfl ?_)
          refine CW.quiet mixedP (by kernel_rfl) hs ?_
          refine QL.val rfl (fun w hs => run_move) ?_
          refine QL.enter rfl (fun w => run_call en14 rfl rfl) (fun w hs => width_abs hR4 okz (Own.live (A := [_, _]) hs)) ?_
          refine QL.val rfl (fun w hs => run_move) ?_
          refine QL.enter rfl (fun w => run_call en13 rfl rfl) (fun w hs => hofb (hb.step0 hs.clear)) ?_
          refine QL.val rfl (fun w hs => run_loadN ty27 rfl hdl hs.a1) ?_
          refine QL.val rfl (fun w hs => run_bT (run_eqDig hd32 hd32 rfl rfl) rfl) ?_
          refine QL.val rfl (fun w hs => run_move) ?_
          first | (refine QL.yes rfl rfl rfl ?_; refine QL.val rfl (fun w hs => run_move) ?_) | refine QL.no rfl rfl rfl (.inl rfl) ?_ | refine QL.no rfl rfl rfl (.inr rfl) ?_
          first | refine QL.val rfl (fun w hs => run_pickT rfl) ?_ | refine QL.val rfl (fun w hs => run_pickF rfl) ?_
          refine QL.val rfl (fun w hs => run_move) ?_
          first | (refine QL.yes rfl rfl rfl ?_; refine QL.val rfl (fun w hs => run_move) ?_) | refine QL.no rfl rfl rfl (.inl rfl) ?_ | refine QL.no rfl rfl rfl (.inr rfl) ?_
          first | (refine QL.yes rfl rfl rfl ?_; refine QL.val rfl (fun w hs => run_move) ?_) | refine QL.no rfl rfl rfl (.inl rfl) ?_ | refine QL.no rfl rfl rfl (.inr rfl) ?_
          refine QL.yes rfl rfl rfl ?_
          refine QL.enter rfl (fun w => run_call en18 rfl rfl) (fun w hs => hsame (Own.sl (A := [_, _]) hs hnow4) (hb.step0 hs.clear)) ?_
          first | (refine QL.yes rfl rfl rfl ?_; (first | refine QL.val rfl (fun w hs => run_notB rfl) ?_ | refine QL.val rfl (fun w hs => run_not rfl) ?_)) | refine QL.no rfl rfl rfl (.inl rfl) ?_ | refine QL.no rfl rfl rfl (.inr rfl) ?_
          first | refine QL.val rfl (fun w hs => run_pickT rfl) ?_ | refine QL.val rfl (fun w hs => run_pickF rfl) ?_
          refine QL.val rfl (fun w hs => run_assign) ?_
          refine QL.nil (fun w hs => ?_)
          repeat (first | refine CW.seq ?_ | refine CW.block ?_ | refine CW.skip ?_ | refine CW.label ?_ | refine CW.exit ?_ | refine CW.condT rfl ?_ | refine CW.condF rfl ?_)
          refine CW.reg ?_
          refine WL.val rfl (run_move) ?_
          refine WL.nil ?_
          repeat (first | refine CW.seq ?_ | refine CW.block ?_ | refine CW.skip ?_ | refine CW.label ?_ | refine CW.exit ?_)
          first | refine CW.condP rfl (fun h2 => ?_) (fun h2 => ?_) | refine CW.cond rfl (fun h2 => ?_) (fun h2 => ?_)
          · repeat (first | refine CW.seq ?_ | refine CW.block ?_ | refine CW.skip ?_ | refine CW.label ?_ | refine CW.exit ?_ | refine CW.condT rfl ?_ | refine CW.condF rfl ?_)
            refine CW.reg ?_
            refine WL.val rfl (run_move) ?_
            refine WL.val rfl (run_loadN ty27 rfl hdl hs.a1) ?_
            refine WL.enter rfl (run_call en17 rfl rfl) (hrw2 hR4 (Own.live (A := [_, _]) hs)) ?_
            rintro e w ⟨v5, Lv5, rfl, hv5, hq⟩
            refine ⟨_, rfl, ?_⟩
            replace hs := Own.keep (A := [_, _]) hs hq
            refine WL.val rfl (run_move) ?_
            refine WL.val rfl (run_extract rfl rfl) ?_
            refine WL.val rfl (run_extract rfl rfl) ?_
            refine WL.val rfl (run_assign) ?_
            refine WL.val rfl (run_assign) ?_
            refine WL.nil ?_
            have hnow5 := hnow4.mono (D' := Lv5 ++ (D4 ++ (Lv' ++ Dx))) fun p hp => List.mem_append_right _ hp
            have hthen : Held (Lv5 ++ (D4 ++ (Lv' ++ Dx))) v5 x := ⟨Lv5, hv5, fun p hp => List.mem_append_left _ hp⟩
            repeat (first | refine CW.seq ?_ | refine CW.block ?_ | refine CW.skip ?_ | refine CW.label ?_ | refine CW.exit ?_ | refine CW.condT rfl ?_ | refine CW.condF rfl ?_)
            refine CW.reg ?_
            refine WL.val rfl (run_move) ?_
            refine WL.val rfl (run_bT (run_eql rfl rfl) (by decide)) ?_
            refine WL.val rfl (run_move) ?_
            refine WL.yes rfl rfl rfl ?_
            refine WL.val rfl (run_loadN ty27 rfl hzl hs.a0) ?_
            refine WL.yes rfl rfl rfl ?_
            refine WL.val rfl (run_build rfl ((bld_dig _))) ?_
            refine WL.yes rfl rfl rfl ?_
            refine WL.val rfl (run_bT (run_eqDig zD_len zD_len rfl rfl) rfl) ?_
            first | refine WL.val rfl (run_pickT rfl) ?_ | refine WL.val rfl (run_pickF rfl) ?_
            refine WL.val rfl (run_move) ?_
            first | (refine WL.yes rfl rfl rfl ?_; refine WL.val rfl (run_move) ?_) | refine WL.no rfl rfl rfl (.inl rfl) ?_ | refine WL.no rfl rfl rfl (.inr rfl) ?_
            first | (refine WL.yes rfl rfl rfl ?_; refine WL.val rfl (run_move) ?_) | refine WL.no rfl rfl rfl (.inl rfl) ?_ | refine WL.no rfl rfl rfl (.inr rfl) ?_
            refine WL.yes rfl rfl rfl ?_
            refine WL.enter rfl (run_call en18 rfl rfl) (hsame2 (Own.sl (A := [_, _]) hs hthen) (Own.sl (A := [_, _]) hs hnow5)) ?_
            rintro e w ⟨rfl, hq⟩
            refine ⟨_, rfl, ?_⟩
            replace hs := hs.callE hq
            first | refine WL.val rfl (run_pickT rfl) ?_ | refine WL.val rfl (run_pickF rfl) ?_
            refine WL.val rfl (run_move) ?_
            refine WL.yes rfl rfl rfl ?_
            refine WL.enter rfl (run_call en10 rfl rfl) (head_spec _) ?_
            rintro e w ⟨rfl, hq⟩
            refine ⟨_, rfl, ?_⟩
            replace hs := hs.callE hq
            first | refine WL.val rfl (run_pickT rfl) ?_ | refine WL.val rfl (run_pickF rfl) ?_
            refine WL.val rfl (run_assign) ?_
            refine WL.nil ?_
            repeat (first | refine CW.seq ?_ | refine CW.block ?_ | refine CW.skip ?_ | refine CW.label ?_ | refine CW.exit ?_ | refine CW.condT rfl ?_ | refine CW.condF rfl ?_)
            refine CW.ret ?_
            refine fin_ret1 rfl ?_
            exact ⟨rfl, hs.clear⟩
          · cases h2
        · have e2 := c2 hcl
          have hobt := AS.put_get okx e2
          obtain ⟨pg1, pg2⟩ := hobt
          have ok4 := okx.put b
          have few4 := hfew.put b
          have hk4 : (oneS k la 1 d x st).k = k := rfl
          rw [hk4] at pg1 pg2
          simp only [e2, pg1] at hput2
          have hobt : ∃ s4, ((oneS k la 1 d x st).put b).2.2 = s4 := ⟨_, rfl⟩
          obtain ⟨s4, hs4⟩ := hobt
          have hks4 : s4.k = k := by rw [← hs4]; exact put_k _ _
          rw [hs4] at pg2 ok4 few4
          simp only [hs4] at hput2
          have hget4 := fun {L D w1} (hR : PRep bs s4 D L) (hl : Lives (L ++ D) w1) => get_abs hR ok4 few4 (by decide) hl hdb
          simp only [pg2] at hget4
          have hsame2 := fun {w1 u1 u2} h1 h2 => same1_spec (u := u1) (v := u2) (x := b) (y := b) w1 h1 h2 (by omega) (by omega)
          simp only [decide_true] at hsame2
          by_cases hA : frontL b k = d
          · rw [hA] at hofb
            by_cases hB : frontL x k = d
            · have hC : x = b := Decidable.byContradiction fun h => hcl ⟨hA, hB, h⟩
              rw [decide_eq_true hB] at hwh
              simp only [decide_eq_true hC] at hsame
              repeat (first | refine CW.seq ?_ | refine CW.block ?_ | refine CW.skip ?_ | refine CW.label ?_ | refine CW.exit ?_ | refine CW.condT rfl ?_ | refine CW.condF rfl ?_)
              refine CW.reg ?_
              refine WL.val rfl (run_move) ?_
              refine WL.val rfl (run_loadN ty27 rfl hdl hs.a0) ?_
              refine WL.enter rfl (run_call en16 rfl rfl) (hwh (Own.live (A := [_]) hs)) ?_
              rintro e w ⟨rfl, hq⟩
              refine ⟨_, rfl, ?_⟩
              replace hs := hs.callE hq
              refine WL.val rfl (run_assign) ?_
              refine WL.nil ?_
              repeat (first | refine CW.seq ?_ | refine CW.block ?_ | refine CW.skip ?_ | refine CW.label ?_ | refine CW.exit ?_ | refine CW.condT rfl ?_ | refine CW.condF rfl ?_)
              refine CW.reg ?_
              refine WL.val rfl (run_move) ?_
              refine WL.val rfl (run_loadN ty27 rfl hdl hs.a0) ?_
              refine WL.enter rfl (run_call en17 rfl rfl) (hrw (Own.live (A := [_]) hs)) ?_
              rintro e w ⟨v', Lv', rfl, hv', hq⟩
              refine ⟨_, rfl, ?_⟩
              replace hs := Own.keep (A := [_]) hs hq
              refine WL.val rfl (run_move) ?_
              refine WL.val rfl (run_extract rfl rfl) ?_
              refine WL.val rfl (run_extract rfl rfl) ?_
              refine WL.val rfl (run_assign) ?_
              refine WL.val rfl (run_assign) ?_
              refine WL.nil ?_
              have hnow : Held (Lv' ++ Dx) v' x := ⟨Lv', hv', fun p hp => List.mem_append_left _ hp⟩
              have hobt := hnow.form
              obtain ⟨xa, xc, rfl⟩ := hobt
              have hRy := hRx.mono (D' := Lv' ++ Dx) fun p hp => List.mem_append_right _ hp
              repeat (first | refine CW.seq ?_ | refine CW.block ?_ | refine CW.skip ?_ | refine CW.label ?_ | refine CW.exit ?_ | refine CW.condT rfl ?_ | refine CW.condF rfl ?_)
              refine CW.reg ?_
              refine WL.val rfl (run_move) ?_
              refine WL.val rfl (run_move) ?_
              refine WL.enter rfl (run_call en12 rfl rfl) (hput2 hRy (Own.live (A := [_]) hs) (hb.step0 hs.clear) (Own.old (A := [_]) hs hb)) ?_
              rintro e w ⟨L4, D4, rfl, hR4, hq⟩
              refine ⟨_, rfl, ?_⟩
              replace hs := Own.put (A := [_]) hs hq
              refine WL.val rfl (run_move) ?_
              refine WL.val rfl (run_extract rfl rfl) ?_
              refine WL.val rfl (run_extract rfl rfl) ?_
              refine WL.alloc ty27 rfl hs (fun b17 w hs => ?_)
              first | refine WL.storeAll ty27 rfl rfl ((hdbl)) (Cells1.u8s _) hs (by first | rfl | assumption) (fun w hs => ?_) | refine WL.storeAll_1 ty27 rfl rfl ((hdbl)) (Cells1.u8s _) hs (by first | rfl | assumption) (fun w hs => ?_) | refine WL.storeAll_2 ty27 rfl rfl ((hdbl)) (Cells1.u8s _) hs (by first | rfl | assumption) (fun w hs => ?_) | refine WL.storeAll_3 ty27 rfl rfl ((hdbl)) (Cells1.u8s _) hs (by first | rfl | assumption) (fun w hs => ?_) | refine WL.storeAll_4 ty27 rfl rfl ((hdbl)) (Cells1.u8s _) hs (by first | rfl | assumption) (fun w hs => ?_) | refine WL.storeAll ty27 rfl rfl ((hdbl)) (Cells1.u8s _) hs (by first | rfl | assumption) (fun w hs => ?_)
              refine WL.val rfl (run_assign) ?_
              refine WL.nil ?_
              have hnow4 := hnow.mono (D' := D4 ++ (Lv' ++ Dx)) fun p hp => List.mem_append_right _ hp
              have hwid := fun {w1} (hl : Lives (L4 ++ (D4 ++ (Lv' ++ Dx))) w1) => width_abs hR4 ok4 hl
              rw [hks4] at hwid
              repeat (first | refine CW.seq ?_ | refine CW.block ?_ | refine CW.skip ?_ | refine CW.label ?_ | refine CW.exit ?_ | refine CW.condT rfl ?_ | refine CW.condF rfl ?_)
              refine CW.quiet mixedP (by kernel_rfl) hs ?_
              refine QL.val rfl (fun w hs => run_move) ?_
              refine QL.enter rfl (fun w => run_call en14 rfl rfl) (fun w hs => hwid (Own.live (A := [_, _]) hs)) ?_
              refine QL.val rfl (fun w hs => run_move) ?_
              refine QL.enter rfl (fun w => run_call en13 rfl rfl) (fun w hs => hofb (hb.step0 hs.clear)) ?_
              refine QL.val rfl (fun w hs => run_loadN ty27 rfl hdl hs.a1) ?_
              refine QL.val rfl (fun w hs => run_bT (run_eqDig hd32 hd32 rfl rfl) rfl) ?_
              refine QL.val rfl (fun w hs => run_move) ?_
              first | (refine QL.yes rfl rfl rfl ?_; refine QL.val rfl (fun w hs => run_move) ?_) | refine QL.no rfl rfl rfl (.inl rfl) ?_ | refine QL.no rfl rfl rfl (.inr rfl) ?_
              first | refine QL.val rfl (fun w hs => run_pickT rfl) ?_ | refine QL.val rfl (fun w hs => run_pickF rfl) ?_
              refine QL.val rfl (fun w hs => run_move) ?_
              first | (refine QL.yes rfl rfl rfl ?_; refine QL.val rfl (fun w hs => run_move) ?_) | refine QL.no rfl rfl rfl (.inl rfl) ?_ | refine QL.no rfl rfl rfl (.inr rfl) ?_
              first | (refine QL.yes rfl rfl rfl ?_; refine QL.val rfl (fun w hs => run_move) ?_) | refine QL.no rfl rfl rfl (.inl rfl) ?_ | refine QL.no rfl rfl rfl (.inr rfl) ?_
              refine QL.yes rfl rfl rfl ?_
              refine QL.enter rfl (fun w => run_call en18 rfl rfl) (fun w hs => hsame (Own.sl (A := [_, _]) hs hnow4) (hb.step0 hs.clear)) ?_
              first | (refine QL.yes rfl rfl rfl ?_; (first | refine QL.val rfl (fun w hs => run_notB rfl) ?_ | refine QL.val rfl (fun w hs => run_not rfl) ?_)) | refine QL.no rfl rfl rfl (.inl rfl) ?_ | refine QL.no rfl rfl rfl (.inr rfl) ?_
              first | refine QL.val rfl (fun w hs => run_pickT rfl) ?_ | refine QL.val rfl (fun w hs => run_pickF rfl) ?_
              refine QL.val rfl (fun w hs => run_assign) ?_
              refine QL.nil (fun w hs => ?_)
              repeat (first | refine CW.seq ?_ | refine CW.block ?_ | refine CW.skip ?_ | refine CW.label ?_ | refine CW.exit ?_ | refine CW.condT rfl ?_ | refine CW.condF rfl ?_)
              refine CW.reg ?_
              refine WL.val rfl (run_move) ?_
              refine WL.nil ?_
              repeat (first | refine CW.seq ?_ | refine CW.block ?_ | refine CW.skip ?_ | refine CW.label ?_ | refine CW.exit ?_)
              first | refine CW.condP rfl (fun h2 => ?_) (fun h2 => ?_) | refine CW.cond rfl (fun h2 => ?_) (fun h2 => ?_)
              · cases h2
              · repeat (first | refine CW.seq ?_ | refine CW.block ?_ | refine CW.skip ?_ | refine CW.label ?_ | refine CW.exit ?_ | refine CW.condT rfl ?_ | refine CW.condF rfl ?_)
                refine CW.reg ?_
                refine WL.val rfl (run_move) ?_
                refine WL.val rfl (run_loadN ty27 rfl hdbl hs.a0) ?_
                refine WL.enter rfl (run_call en19 rfl rfl) (hget4 hR4 (Own.live (A := [_, _]) hs)) ?_
                rintro e w ⟨v5, Lv5, L5, rfl, hv5, hR5, hq⟩
                refine ⟨_, rfl, ?_⟩
                replace hs := Own.put (A := [_, _]) hs hq
                refine WL.val rfl (run_move) ?_
                refine WL.val rfl (run_extract rfl rfl) ?_
                refine WL.val rfl (run_extract rfl rfl) ?_
                refine WL.val rfl (run_assign) ?_
                refine WL.val rfl (run_assign) ?_
                refine WL.nil ?_
                have hgot : Held (Lv5 ++ (D4 ++ (Lv' ++ Dx))) v5 b := ⟨Lv5, hv5, fun p hp => List.mem_append_left _ hp⟩
                repeat (first | refine CW.seq ?_ | refine CW.block ?_ | refine CW.skip ?_ | refine CW.label ?_ | refine CW.exit ?_ | refine CW.condT rfl ?_ | refine CW.condF rfl ?_)
                refine CW.reg ?_
                refine WL.val rfl (run_move) ?_
                refine WL.val rfl (run_bT (run_eql rfl rfl) (by decide)) ?_
                refine WL.val rfl (run_move) ?_
                first | (refine WL.yes rfl rfl rfl ?_; refine WL.val rfl (run_move) ?_) | refine WL.no rfl rfl rfl (.inl rfl) ?_ | refine WL.no rfl rfl rfl (.inr rfl) ?_
                refine WL.yes rfl rfl rfl ?_
                refine WL.val rfl (run_bT (run_eql rfl rfl) (by decide)) ?_
                first | refine WL.val rfl (run_pickT rfl) ?_ | refine WL.val rfl (run_pickF rfl) ?_
                refine WL.val rfl (run_move) ?_
                first | (refine WL.yes rfl rfl rfl ?_; refine WL.val rfl (run_move) ?_) | refine WL.no rfl rfl rfl (.inl rfl) ?_ | refine WL.no rfl rfl rfl (.inr rfl) ?_
                first | (refine WL.yes rfl rfl rfl ?_; refine WL.val rfl (run_move) ?_) | refine WL.no rfl rfl rfl (.inl rfl) ?_ | refine WL.no rfl rfl rfl (.inr rfl) ?_
                refine WL.yes rfl rfl rfl ?_
                refine WL.enter rfl (run_call en18 rfl rfl) (hsame2 (Own.sl (A := [_, _]) hs hgot) (hb.step0 hs.clear)) ?_
                rintro e w ⟨rfl, hq⟩
                refine ⟨_, rfl, ?_⟩
                replace hs := hs.callE hq
                first | refine WL.val rfl (run_pickT rfl) ?_ | refine WL.val rfl (run_pickF rfl) ?_
                refine WL.val rfl (run_move) ?_
                refine WL.yes rfl rfl rfl ?_
                refine WL.enter rfl (run_call en10 rfl rfl) (head_spec _) ?_
                rintro e w ⟨rfl, hq⟩
                refine ⟨_, rfl, ?_⟩
                replace hs := hs.callE hq
                first | refine WL.val rfl (run_pickT rfl) ?_ | refine WL.val rfl (run_pickF rfl) ?_
                refine WL.val rfl (run_assign) ?_
                refine WL.nil ?_
                repeat (first | refine CW.seq ?_ | refine CW.block ?_ | refine CW.skip ?_ | refine CW.label ?_ | refine CW.exit ?_ | refine CW.condT rfl ?_ | refine CW.condF rfl ?_)
                refine CW.ret ?_
                refine fin_ret1 rfl ?_
                exact ⟨rfl, hs.clear⟩
            · rw [decide_eq_false hB] at hwh
              repeat (first | refine CW.seq ?_ | refine CW.block ?_ | refine CW.skip ?_ | refine CW.label ?_ | refine CW.exit ?_ | refine CW.condT rfl ?_ | refine CW.condF rfl ?_)
              refine CW.reg ?_
              refine WL.val rfl (run_move) ?_
              refine WL.val rfl (run_loadN ty27 rfl hdl hs.a0) ?_
              refine WL.enter rfl (run_call en16 rfl rfl) (hwh (Own.live (A := [_]) hs)) ?_
              rintro e w ⟨rfl, hq⟩
              refine ⟨_, rfl, ?_⟩
              replace hs := hs.callE hq
              refine WL.val rfl (run_assign) ?_
              refine WL.nil ?_
              repeat (first | refine CW.seq ?_ | refine CW.block ?_ | refine CW.skip ?_ | refine CW.label ?_ | refine CW.exit ?_ | refine CW.condT rfl ?_ | refine CW.condF rfl ?_)
              refine CW.reg ?_
              refine WL.val rfl (run_move) ?_
              refine WL.val rfl (run_loadN ty27 rfl hdl hs.a0) ?_
              refine WL.enter rfl (run_call en17 rfl rfl) (hrw (Own.live (A := [_]) hs)) ?_
              rintro e w ⟨v', Lv', rfl, hv', hq⟩
              refine ⟨_, rfl, ?_⟩
              replace hs := Own.keep (A := [_]) hs hq
              refine WL.val rfl (run_move) ?_
              refine WL.val rfl (run_extract rfl rfl) ?_
              refine WL.val rfl (run_extract rfl rfl) ?_
              refine WL.val rfl (run_assign) ?_
              refine WL.val rfl (run_assign) ?_
              refine WL.nil ?_
              have hnow : Held (Lv' ++ Dx) v' x := ⟨Lv', hv', fun p hp => List.mem_append_left _ hp⟩
              have hobt := hnow.form
              obtain ⟨xa, xc, rfl⟩ := hobt
              have hRy := hRx.mono (D' := Lv' ++ Dx) fun p hp => List.mem_append_right _ hp
              repeat (first | refine CW.seq ?_ | refine CW.block ?_ | refine CW.skip ?_ | refine CW.label ?_ | refine CW.exit ?_ | refine CW.condT rfl ?_ | refine CW.condF rfl ?_)
              refine CW.reg ?_
              refine WL.val rfl (run_move) ?_
              refine WL.val rfl (run_move) ?_
              refine WL.enter rfl (run_call en12 rfl rfl) (hput2 hRy (Own.live (A := [_]) hs) (hb.step0 hs.clear) (Own.old (A := [_]) hs hb)) ?_
              rintro e w ⟨L4, D4, rfl, hR4, hq⟩
              refine ⟨_, rfl, ?_⟩
              replace hs := Own.put (A := [_]) hs hq
              refine WL.val rfl (run_move) ?_
              refine WL.val rfl (run_extract rfl rfl) ?_
              refine WL.val rfl (run_extract rfl rfl) ?_
              refine WL.alloc ty27 rfl hs (fun b17 w hs => ?_)
              first | refine WL.storeAll ty27 rfl rfl ((hdbl)) (Cells1.u8s _) hs (by first | rfl | assumption) (fun w hs => ?_) | refine WL.storeAll_1 ty27 rfl rfl ((hdbl)) (Cells1.u8s _) hs (by first | rfl | assumption) (fun w hs => ?_) | refine WL.storeAll_2 ty27 rfl rfl ((hdbl)) (Cells1.u8s _) hs (by first | rfl | assumption) (fun w hs => ?_) | refine WL.storeAll_3 ty27 rfl rfl ((hdbl)) (Cells1.u8s _) hs (by first | rfl | assumption) (fun w hs => ?_) | refine WL.storeAll_4 ty27 rfl rfl ((hdbl)) (Cells1.u8s _) hs (by first | rfl | assumption) (fun w hs => ?_) | refine WL.storeAll ty27 rfl rfl ((hdbl)) (Cells1.u8s _) hs (by first | rfl | assumption) (fun w hs => ?_)
              refine WL.val rfl (run_assign) ?_
              refine WL.nil ?_
              have hnow4 := hnow.mono (D' := D4 ++ (Lv' ++ Dx)) fun p hp => List.mem_append_right _ hp
              have hwid := fun {w1} (hl : Lives (L4 ++ (D4 ++ (Lv' ++ Dx))) w1) => width_abs hR4 ok4 hl
              rw [hks4] at hwid
              repeat (first | refine CW.seq ?_ | refine CW.block ?_ | refine CW.skip ?_ | refine CW.label ?_ | refine CW.exit ?_ | refine CW.condT rfl ?_ | refine CW.condF rfl ?_)
              refine CW.quiet mixedP (by kernel_rfl) hs ?_
              refine QL.val rfl (fun w hs => run_move) ?_
              refine QL.enter rfl (fun w => run_call en14 rfl rfl) (fun w hs => hwid (Own.live (A := [_, _]) hs)) ?_
              refine QL.val rfl (fun w hs => run_move) ?_
              refine QL.enter rfl (fun w => run_call en13 rfl rfl) (fun w hs => hofb (hb.step0 hs.clear)) ?_
              refine QL.val rfl (fun w hs => run_loadN ty27 rfl hdl hs.a1) ?_
              refine QL.val rfl (fun w hs => run_bT (run_eqDig hd32 hd32 rfl rfl) rfl) ?_
              refine QL.val rfl (fun w hs => run_move) ?_
              first | (refine QL.yes rfl rfl rfl ?_; refine QL.val rfl (fun w hs => run_move) ?_) | refine QL.no rfl rfl rfl (.inl rfl) ?_ | refine QL.no rfl rfl rfl (.inr rfl) ?_
              first | refine QL.val rfl (fun w hs => run_pickT rfl) ?_ | refine QL.val rfl (fun w hs => run_pickF rfl) ?_
              refine QL.val rfl (fun w hs => run_move) ?_
              first | (refine QL.yes rfl rfl rfl ?_; refine QL.val rfl (fun w hs => run_move) ?_) | refine QL.no rfl rfl rfl (.inl rfl) ?_ | refine QL.no rfl rfl rfl (.inr rfl) ?_
              first | (refine QL.yes rfl rfl rfl ?_; refine QL.val rfl (fun w hs => run_move) ?_) | refine QL.no rfl rfl rfl (.inl rfl) ?_ | refine QL.no rfl rfl rfl (.inr rfl) ?_
              first | refine QL.no rfl rfl rfl (.inl rfl) ?_ | refine QL.no rfl rfl rfl (.inr rfl) ?_
              first | (refine QL.yes rfl rfl rfl ?_; (first | refine QL.val rfl (fun w hs => run_notB rfl) ?_ | refine QL.val rfl (fun w hs => run_not rfl) ?_)) | refine QL.no rfl rfl rfl (.inl rfl) ?_ | refine QL.no rfl rfl rfl (.inr rfl) ?_
              first | refine QL.val rfl (fun w hs => run_pickT rfl) ?_ | refine QL.val rfl (fun w hs => run_pickF rfl) ?_
              refine QL.val rfl (fun w hs => run_assign) ?_
              refine QL.nil (fun w hs => ?_)
              repeat (first | refine CW.seq ?_ | refine CW.block ?_ | refine CW.skip ?_ | refine CW.label ?_ | refine CW.exit ?_ | refine CW.condT rfl ?_ | refine CW.condF rfl ?_)
              refine CW.reg ?_
              refine WL.val rfl (run_move) ?_
              refine WL.nil ?_
              repeat (first | refine CW.seq ?_ | refine CW.block ?_ | refine CW.skip ?_ | refine CW.label ?_ | refine CW.exit ?_)
              first | refine CW.condP rfl (fun h2 => ?_) (fun h2 => ?_) | refine CW.cond rfl (fun h2 => ?_) (fun h2 => ?_)
              · cases h2
              · repeat (first | refine CW.seq ?_ | refine CW.block ?_ | refine CW.skip ?_ | refine CW.label ?_ | refine CW.exit ?_ | refine CW.condT rfl ?_ | refine CW.condF rfl ?_)
                refine CW.reg ?_
                refine WL.val rfl (run_move) ?_
                refine WL.val rfl (run_loadN ty27 rfl hdbl hs.a0) ?_
                refine WL.enter rfl (run_call en19 rfl rfl) (hget4 hR4 (Own.live (A := [_, _]) hs)) ?_
                rintro e w ⟨v5, Lv5, L5, rfl, hv5, hR5, hq⟩
                refine ⟨_, rfl, ?_⟩
                replace hs := Own.put (A := [_, _]) hs hq
                refine WL.val rfl (run_move) ?_
                refine WL.val rfl (run_extract rfl rfl) ?_
                refine WL.val rfl (run_extract rfl rfl) ?_
                refine WL.val rfl (run_assign) ?_
                refine WL.val rfl (run_assign) ?_
                refine WL.nil ?_
                have hgot : Held (Lv5 ++ (D4 ++ (Lv' ++ Dx))) v5 b := ⟨Lv5, hv5, fun p hp => List.mem_append_left _ hp⟩
                repeat (first | refine CW.seq ?_ | refine CW.block ?_ | refine CW.skip ?_ | refine CW.label ?_ | refine CW.exit ?_ | refine CW.condT rfl ?_ | refine CW.condF rfl ?_)
                refine CW.reg ?_
                refine WL.val rfl (run_move) ?_
                refine WL.val rfl (run_bT (run_eql rfl rfl) (by decide)) ?_
                refine WL.val rfl (run_move) ?_
                first | (refine WL.yes rfl rfl rfl ?_; refine WL.val rfl (run_move) ?_) | refine WL.no rfl rfl rfl (.inl rfl) ?_ | refine WL.no rfl rfl rfl (.inr rfl) ?_
                refine WL.yes rfl rfl rfl ?_
                refine WL.val rfl (run_bT (run_eql rfl rfl) (by decide)) ?_
                first | refine WL.val rfl (run_pickT rfl) ?_ | refine WL.val rfl (run_pickF rfl) ?_
                refine WL.val rfl (run_move) ?_
                first | (refine WL.yes rfl rfl rfl ?_; refine WL.val rfl (run_move) ?_) | refine WL.no rfl rfl rfl (.inl rfl) ?_ | refine WL.no rfl rfl rfl (.inr rfl) ?_
                first | (refine WL.yes rfl rfl rfl ?_; refine WL.val rfl (run_move) ?_) | refine WL.no rfl rfl rfl (.inl rfl) ?_ | refine WL.no rfl rfl rfl (.inr rfl) ?_
                refine WL.yes rfl rfl rfl ?_
                refine WL.enter rfl (run_call en18 rfl rfl) (hsame2 (Own.sl (A := [_, _]) hs hgot) (hb.step0 hs.clear)) ?_
                rintro e w ⟨rfl, hq⟩
                refine ⟨_, rfl, ?_⟩
                replace hs := hs.callE hq
                first | refine WL.val rfl (run_pickT rfl) ?_ | refine WL.val rfl (run_pickF rfl) ?_
                refine WL.val rfl (run_move) ?_
                refine WL.yes rfl rfl rfl ?_
                refine WL.enter rfl (run_call en10 rfl rfl) (head_spec _) ?_
                rintro e w ⟨rfl, hq⟩
                refine ⟨_, rfl, ?_⟩
                replace hs := hs.callE hq
                first | refine WL.val rfl (run_pickT rfl) ?_ | refine WL.val rfl (run_pickF rfl) ?_
                refine WL.val rfl (run_assign) ?_
                refine WL.nil ?_
                repeat (first | refine CW.seq ?_ | refine CW.block ?_ | refine CW.skip ?_ | refine CW.label ?_ | refine CW.exit ?_ | refine CW.condT rfl ?_ | refine CW.condF rfl ?_)
                refine CW.ret ?_
                refine fin_ret1 rfl ?_
                exact ⟨rfl, hs.clear⟩
          · repeat (first | refine CW.seq ?_ | refine CW.block ?_ | refine CW.skip ?_ | refine CW.label ?_ | refine CW.exit ?_ | refine CW.condT rfl ?_ | refine CW.condF rfl ?_)
            refine CW.reg ?_
            refine WL.val rfl (run_move) ?_
            refine WL.val rfl (run_loadN ty27 rfl hdl hs.a0) ?_
            refine WL.enter rfl (run_call en16 rfl rfl) (hwh (Own.live (A := [_]) hs)) ?_
            rintro e w ⟨rfl, hq⟩
            refine ⟨_, rfl, ?_⟩
            replace hs := hs.callE hq
            refine WL.val rfl (run_assign) ?_
            refine WL.nil ?_
            repeat (first | refine CW.seq ?_ | refine CW.block ?_ | refine CW.skip ?_ | refine CW.label ?_ | refine CW.exit ?_ | refine CW.condT rfl ?_ | refine CW.condF rfl ?_)
            refine CW.reg ?_
            refine WL.val rfl (run_move) ?_
            refine WL.val rfl (run_loadN ty27 rfl hdl hs.a0) ?_
            refine WL.enter rfl (run_call en17 rfl rfl) (hrw (Own.live (A := [_]) hs)) ?_
            rintro e w ⟨v', Lv', rfl, hv', hq⟩
            refine ⟨_, rfl, ?_⟩
            replace hs := Own.keep (A := [_]) hs hq
            refine WL.val rfl (run_move) ?_
            refine WL.val rfl (run_extract rfl rfl) ?_
            refine WL.val rfl (run_extract rfl rfl) ?_
            refine WL.val rfl (run_assign) ?_
            refine WL.val rfl (run_assign) ?_
            refine WL.nil ?_
            have hnow : Held (Lv' ++ Dx) v' x := ⟨Lv', hv', fun p hp => List.mem_append_left _ hp⟩
            have hobt := hnow.form
            obtain ⟨xa, xc, rfl⟩ := hobt
            have hRy := hRx.mono (D' := Lv' ++ Dx) fun p hp => List.mem_append_right _ hp
            repeat (first | refine CW.seq ?_ | refine CW.block ?_ | refine CW.skip ?_ | refine CW.label ?_ | refine CW.exit ?_ | refine CW.condT rfl ?_ | refine CW.condF rfl ?_)
            refine CW.reg ?_
            refine WL.val rfl (run_move) ?_
            refine WL.val rfl (run_move) ?_
            refine WL.enter rfl (run_call en12 rfl rfl) (hput2 hRy (Own.live (A := [_]) hs) (hb.step0 hs.clear) (Own.old (A := [_]) hs hb)) ?_
            rintro e w ⟨L4, D4, rfl, hR4, hq⟩
            refine ⟨_, rfl, ?_⟩
            replace hs := Own.put (A := [_]) hs hq
            refine WL.val rfl (run_move) ?_
            refine WL.val rfl (run_extract rfl rfl) ?_
            refine WL.val rfl (run_extract rfl rfl) ?_
            refine WL.alloc ty27 rfl hs (fun b17 w hs => ?_)
            first | refine WL.storeAll ty27 rfl rfl ((hdbl)) (Cells1.u8s _) hs (by first | rfl | assumption) (fun w hs => ?_) | refine WL.storeAll_1 ty27 rfl rfl ((hdbl)) (Cells1.u8s _) hs (by first | rfl | assumption) (fun w hs => ?_) | refine WL.storeAll_2 ty27 rfl rfl ((hdbl)) (Cells1.u8s _) hs (by first | rfl | assumption) (fun w hs => ?_) | refine WL.storeAll_3 ty27 rfl rfl ((hdbl)) (Cells1.u8s _) hs (by first | rfl | assumption) (fun w hs => ?_) | refine WL.storeAll_4 ty27 rfl rfl ((hdbl)) (Cells1.u8s _) hs (by first | rfl | assumption) (fun w hs => ?_) | refine WL.storeAll ty27 rfl rfl ((hdbl)) (Cells1.u8s _) hs (by first | rfl | assumption) (fun w hs => ?_)
            refine WL.val rfl (run_assign) ?_
            refine WL.nil ?_
            have hnow4 := hnow.mono (D' := D4 ++ (Lv' ++ Dx)) fun p hp => List.mem_append_right _ hp
            have hwid := fun {w1} (hl : Lives (L4 ++ (D4 ++ (Lv' ++ Dx))) w1) => width_abs hR4 ok4 hl
            rw [hks4] at hwid
            repeat (first | refine CW.seq ?_ | refine CW.block ?_ | refine CW.skip ?_ | refine CW.label ?_ | refine CW.exit ?_ | refine CW.condT rfl ?_ | refine CW.condF rfl ?_)
            refine CW.quiet mixedP (by kernel_rfl) hs ?_
            refine QL.val rfl (fun w hs => run_move) ?_
            refine QL.enter rfl (fun w => run_call en14 rfl rfl) (fun w hs => hwid (Own.live (A := [_, _]) hs)) ?_
            refine QL.val rfl (fun w hs => run_move) ?_
            refine QL.enter rfl (fun w => run_call en13 rfl rfl) (fun w hs => hofb (hb.step0 hs.clear)) ?_
            refine QL.val rfl (fun w hs => run_loadN ty27 rfl hdl hs.a1) ?_
            refine QL.val rfl (fun w hs => run_bF (run_eqDig hdb hd32 rfl rfl) hA) ?_
            refine QL.val rfl (fun w hs => run_move) ?_
            first | (refine QL.yes rfl rfl rfl ?_; refine QL.val rfl (fun w hs => run_move) ?_) | refine QL.no rfl rfl rfl (.inl rfl) ?_ | refine QL.no rfl rfl rfl (.inr rfl) ?_
            first | refine QL.val rfl (fun w hs => run_pickT rfl) ?_ | refine QL.val rfl (fun w hs => run_pickF rfl) ?_
            refine QL.val rfl (fun w hs => run_move) ?_
            first | (refine QL.yes rfl rfl rfl ?_; refine QL.val rfl (fun w hs => run_move) ?_) | refine QL.no rfl rfl rfl (.inl rfl) ?_ | refine QL.no rfl rfl rfl (.inr rfl) ?_
            first | (refine QL.yes rfl rfl rfl ?_; refine QL.val rfl (fun w hs => run_move) ?_) | refine QL.no rfl rfl rfl (.inl rfl) ?_ | refine QL.no rfl rfl rfl (.inr rfl) ?_
            first | refine QL.no rfl rfl rfl (.inl rfl) ?_ | refine QL.no rfl rfl rfl (.inr rfl) ?_
            first | (refine QL.yes rfl rfl rfl ?_; (first | refine QL.val rfl (fun w hs => run_notB rfl) ?_ | refine QL.val rfl (fun w hs => run_not rfl) ?_)) | refine QL.no rfl rfl rfl (.inl rfl) ?_ | refine QL.no rfl rfl rfl (.inr rfl) ?_
            first | refine QL.val rfl (fun w hs => run_pickT rfl) ?_ | refine QL.val rfl (fun w hs => run_pickF rfl) ?_
            refine QL.val rfl (fun w hs => run_assign) ?_
            refine QL.nil (fun w hs => ?_)
            repeat (first | refine CW.seq ?_ | refine CW.block ?_ | refine CW.skip ?_ | refine CW.label ?_ | refine CW.exit ?_ | refine CW.condT rfl ?_ | refine CW.condF rfl ?_)
            refine CW.reg ?_
            refine WL.val rfl (run_move) ?_
            refine WL.nil ?_
            repeat (first | refine CW.seq ?_ | refine CW.block ?_ | refine CW.skip ?_ | refine CW.label ?_ | refine CW.exit ?_)
            first | refine CW.condP rfl (fun h2 => ?_) (fun h2 => ?_) | refine CW.cond rfl (fun h2 => ?_) (fun h2 => ?_)
            · cases h2
            · repeat (first | refine CW.seq ?_ | refine CW.block ?_ | refine CW.skip ?_ | refine CW.label ?_ | refine CW.exit ?_ | refine CW.condT rfl ?_ | refine CW.condF rfl ?_)
              refine CW.reg ?_
              refine WL.val rfl (run_move) ?_
              refine WL.val rfl (run_loadN ty27 rfl hdbl hs.a0) ?_
              refine WL.enter rfl (run_call en19 rfl rfl) (hget4 hR4 (Own.live (A := [_, _]) hs)) ?_
              rintro e w ⟨v5, Lv5, L5, rfl, hv5, hR5, hq⟩
              refine ⟨_, rfl, ?_⟩
              replace hs := Own.put (A := [_, _]) hs hq
              refine WL.val rfl (run_move) ?_
              refine WL.val rfl (run_extract rfl rfl) ?_
              refine WL.val rfl (run_extract rfl rfl) ?_
              refine WL.val rfl (run_assign) ?_
              refine WL.val rfl (run_assign) ?_
              refine WL.nil ?_
              have hgot : Held (Lv5 ++ (D4 ++ (Lv' ++ Dx))) v5 b := ⟨Lv5, hv5, fun p hp => List.mem_append_left _ hp⟩
              repeat (first | refine CW.seq ?_ | refine CW.block ?_ | refine CW.skip ?_ | refine CW.label ?_ | refine CW.exit ?_ | refine CW.condT rfl ?_ | refine CW.condF rfl ?_)
              refine CW.reg ?_
              refine WL.val rfl (run_move) ?_
              refine WL.val rfl (run_bT (run_eql rfl rfl) (by decide)) ?_
              refine WL.val rfl (run_move) ?_
              first | (refine WL.yes rfl rfl rfl ?_; refine WL.val rfl (run_move) ?_) | refine WL.no rfl rfl rfl (.inl rfl) ?_ | refine WL.no rfl rfl rfl (.inr rfl) ?_
              refine WL.yes rfl rfl rfl ?_
              refine WL.val rfl (run_bT (run_eql rfl rfl) (by decide)) ?_
              first | refine WL.val rfl (run_pickT rfl) ?_ | refine WL.val rfl (run_pickF rfl) ?_
              refine WL.val rfl (run_move) ?_
              first | (refine WL.yes rfl rfl rfl ?_; refine WL.val rfl (run_move) ?_) | refine WL.no rfl rfl rfl (.inl rfl) ?_ | refine WL.no rfl rfl rfl (.inr rfl) ?_
              first | (refine WL.yes rfl rfl rfl ?_; refine WL.val rfl (run_move) ?_) | refine WL.no rfl rfl rfl (.inl rfl) ?_ | refine WL.no rfl rfl rfl (.inr rfl) ?_
              refine WL.yes rfl rfl rfl ?_
              refine WL.enter rfl (run_call en18 rfl rfl) (hsame2 (Own.sl (A := [_, _]) hs hgot) (hb.step0 hs.clear)) ?_
              rintro e w ⟨rfl, hq⟩
              refine ⟨_, rfl, ?_⟩
              replace hs := hs.callE hq
              first | refine WL.val rfl (run_pickT rfl) ?_ | refine WL.val rfl (run_pickF rfl) ?_
              refine WL.val rfl (run_move) ?_
              refine WL.yes rfl rfl rfl ?_
              refine WL.enter rfl (run_call en10 rfl rfl) (head_spec _) ?_
              rintro e w ⟨rfl, hq⟩
              refine ⟨_, rfl, ?_⟩
              replace hs := hs.callE hq
              first | refine WL.val rfl (run_pickT rfl) ?_ | refine WL.val rfl (run_pickF rfl) ?_
              refine WL.val rfl (run_assign) ?_
              refine WL.nil ?_
              repeat (first | refine CW.seq ?_ | refine CW.block ?_ | refine CW.skip ?_ | refine CW.label ?_ | refine CW.exit ?_ | refine CW.condT rfl ?_ | refine CW.condF rfl ?_)
              refine CW.ret ?_
              refine fin_ret1 rfl ?_
              exact ⟨rfl, hs.clear⟩
      · repeat (first | refine CW.seq ?_ | refine CW.block ?_ | refine CW.skip ?_ | refine CW.label ?_ | refine CW.exit ?_)
        first | refine CW.condP rfl (fun h => ?_) (fun h => ?_) | refine CW.cond rfl (fun h => ?_) (fun h => ?_)
        · have hpl := fun {v D w1} (hR : PRep bs (oneS k 1 1 d a 1) D L2) (hl : Lives (L2 ++ D) w1) h1 h2 => plant_abs (v := v) (y := 1 :: a) (n := 1) (w0 := w1) hR (oneS_ok hk1 hk2 hd32 (by omega)) ⟨Nat.le_refl _, Nat.zero_le _, Nat.le_refl _⟩ (by decide) hl hd32 h1 h2 (by simp only [List.length_cons]; omega)
          simp only [plant_one (a := a) hfit (show (1 :: a).length ≤ 8193 by simp only [List.length_cons]; omega) hk2] at hpl
          repeat (first | refine CW.seq ?_ | refine CW.block ?_ | refine CW.skip ?_ | refine CW.label ?_ | refine CW.exit ?_ | refine CW.condT rfl ?_ | refine CW.condF rfl ?_)
          refine CW.reg ?_
          refine WL.buildSlice (cs := u8s [1]) Try.underlying22 ty5 rfl (by decide) rfl (by rfl) rfl hs (fun b54 w hs => ?_)
          have ho : OwnSl 5 1 (.slice (some ⟨b54, 0, none⟩) 1 1) 1 (u8s [1]) [(b54, blk 5 (u8s [1]))] := OwnSl.mk rfl
          refine WL.val rfl (run_move) ?_
          refine WL.append Try.underlying22 Try.underlying22 ty5 rfl (by decide) rfl rfl (ho) (hs) (ha.step0 hs.clear) (Cells1.u8s _) (by first | omega | (simp only [List.length_append, List.length_cons, List.length_nil]; omega)) rfl (fun v56 Lv56 w hv56 hs => ?_)
          replace hs := Own.intoD (A := [_]) (Lv := Lv56) hs
          refine WL.val rfl (run_assign) ?_
          refine WL.nil ?_
          have hv56' : OwnSl 5 1 v56 (1 :: a).length (u8s (1 :: a)) Lv56 := by have h := hv56; rw [show 1 + a.length = (1 :: a).length by simp only [List.length_cons]; omega] at h; exact h
          have hoth : Held (Lv56 ++ (D2 ++ [])) v56 (1 :: a) := ⟨Lv56, hv56', fun p hp => List.mem_append_left _ hp⟩
          have hobt := hoth.form
          obtain ⟨oa, oc, rfl⟩ := hobt
          have hR2' := hR2.mono (D' := Lv56 ++ (D2 ++ [])) fun p hp => List.mem_append_right _ hp
          repeat (first | refine CW.seq ?_ | refine CW.block ?_ | refine CW.skip ?_ | refine CW.label ?_ | refine CW.exit ?_ | refine CW.condT rfl ?_ | refine CW.condF rfl ?_)
          refine CW.reg ?_
          refine WL.val rfl (run_move) ?_
          refine WL.val rfl (run_loadN ty27 rfl hdl hs.a0) ?_
          refine WL.val rfl (run_move) ?_
          refine WL.enter rfl (run_call en15 rfl rfl) (hpl hR2' (Own.live (A := [_]) hs) (Own.sl (A := [_]) hs hoth) (.inr (Own.outside (A := [_]) hs hoth))) ?_
          rintro e w ⟨L3, D3, rfl, hR3, hq⟩
          refine ⟨_, rfl, ?_⟩
          replace hs := Own.put (A := [_]) hs hq
          refine WL.val rfl (run_assign) ?_
          refine WL.nil ?_
          have hoth3 := hoth.mono (D' := D3 ++ (Lv56 ++ (D2 ++ []))) fun p hp => List.mem_append_right _ hp
          have ok3 : (oneS k 2 1 d (1 :: a) 2).Ok := oneS_ok hk1 hk2 hd32 (by simp only [List.length_cons]; omega)
          have hwh3v : (oneS k 2 1 d (1 :: a) 2).whole d = decide (frontL (1 :: a) k = d) := one_whole
          have hwh3 := fun {w1} (hl : Lives (L3 ++ (D3 ++ (Lv56 ++ (D2 ++ [])))) w1) => whole_abs hR3 ok3 hl hd32
          rw [hwh3v] at hwh3
          have hof3 := fun {w1} (h : Sl w1 1 (.slice oa (1 :: a).length oc) (1 :: a).length (u8s (1 :: a))) => ofR_spec (k := k) w1 h (by simp only [List.length_cons]; omega) hk1 hk2
          have hfo : (frontL (1 :: a) k).length = 32 := frontL_len hk2
          repeat (first | refine CW.seq ?_ | refine CW.block ?_ | refine CW.skip ?_ | refine CW.label ?_ | refine CW.exit ?_ | refine CW.condT rfl ?_ | refine CW.condF rfl ?_)
          refine CW.quiet mixedP (by kernel_rfl) hs ?_
          refine QL.val rfl (fun w hs => run_move) ?_
          refine QL.val rfl (fun w hs => run_bF (run_neq rfl rfl) (by decide)) ?_
          refine QL.val rfl (fun w hs => run_move) ?_
          first | (refine QL.yes rfl rfl rfl ?_; refine QL.val rfl (fun w hs => run_move) ?_) | refine QL.no rfl rfl rfl (.inl rfl) ?_ | refine QL.no rfl rfl rfl (.inr rfl) ?_
          refine QL.yes rfl rfl rfl ?_
          refine QL.val rfl (fun w hs => run_loadN ty27 rfl hdl hs.a0) ?_
          refine QL.yes rfl rfl rfl ?_
          refine QL.enter rfl (fun w => run_call en16 rfl rfl) (fun w hs => hwh3 (Own.live (A := [_]) hs)) ?_
          first | (refine QL.yes rfl rfl rfl ?_; refine QL.val rfl (fun w hs => run_move) ?_) | refine QL.no rfl rfl rfl (.inl rfl) ?_ | refine QL.no rfl rfl rfl (.inr rfl) ?_
          refine QL.yes rfl rfl rfl ?_
          refine QL.enter rfl (fun w => run_call en14 rfl rfl) (fun w hs => width_abs hR3 ok3 (Own.live (A := [_]) hs)) ?_
          first | (refine QL.yes rfl rfl rfl ?_; refine QL.val rfl (fun w hs => run_move) ?_) | refine QL.no rfl rfl rfl (.inl rfl) ?_ | refine QL.no rfl rfl rfl (.inr rfl) ?_
          refine QL.yes rfl rfl rfl ?_
          refine QL.enter rfl (fun w => run_call en13 rfl rfl) (fun w hs => hof3 (Own.sl (A := [_]) hs hoth3)) ?_
          refine QL.yes rfl rfl rfl ?_
          refine QL.val rfl (fun w hs => run_loadN ty27 rfl hdl hs.a0) ?_
          refine QL.yes rfl rfl rfl ?_
          refine QL.val rfl (fun w hs => run_eqDig hfo hd32 rfl rfl) ?_
          first | (refine QL.yes rfl rfl rfl ?_; refine QL.val rfl (fun w hs => run_neqB Try.underlying4 rfl rfl) ?_) | refine QL.no rfl rfl rfl (.inl rfl) ?_ | refine QL.no rfl rfl rfl (.inr rfl) ?_
          first | refine QL.val rfl (fun w hs => run_pickT rfl) ?_ | refine QL.val rfl (fun w hs => run_pickF rfl) ?_
          refine QL.nil (fun w hs => ?_)
          repeat (first | refine CW.seq ?_ | refine CW.block ?_ | refine CW.skip ?_ | refine CW.label ?_ | refine CW.exit ?_)
          first | refine CW.condP rfl (fun h2 => ?_) (fun h2 => ?_) | refine CW.cond rfl (fun h2 => ?_) (fun h2 => ?_)
          · exact absurd h2 (by simp)
          have hobt : ∃ Lx Dx la st x, PRep bs (oneS k la 1 d x st) Dx Lx ∧ Step [] ((b10, blk 27 (u8s d)) :: (Lx ++ Dx)) w0 w ∧ la ≤ 2 ∧ x.length ≤ 8193 := ⟨L3, D3 ++ (Lv56 ++ (D2 ++ [])), 2, 2, 1 :: a, hR3, hs, by omega, by simp only [List.length_cons]; omega⟩
          obtain ⟨Lx, Dx, la, st, x, hRx, hsx, hla2, hxl⟩ := hobt
          replace hs := hsx
          have okx : (oneS k la 1 d x st).Ok := oneS_ok hk1 hk2 hd32 hxl
          have hfew : (oneS k la 1 d x st).Few 2 := ⟨hla2, Nat.zero_le _, Nat.le_succ 1⟩
          have hwhv : (oneS k la 1 d x st).whole d = decide (frontL x k = d) := one_whole
          have hrawv : (oneS k la 1 d x st).raw d = x := one_raw
          have hhasv : (oneS k la 1 d x st).has d = true := one_has
          have hwh := fun {w1} (hl : Lives (Lx ++ Dx) w1) => whole_abs hRx okx hl hd32
          have hrw := fun {w1} (hl : Lives (Lx ++ Dx) w1) => raw_abs hRx okx hl hd32
          rw [hwhv] at hwh
          rw [hrawv, hhasv] at hrw
          have hobt := put_second (k := k) (last := la) (puts := 1) (st := st) (d := d) (x := x) (b := b) hk1 hk2 hd32 hxl hlb
          obtain ⟨c1, c2⟩ := hobt
          have hdb : (frontL b k).length = 32 := frontL_len hk2
          have hdbl : (u8s (frontL b k)).length = 32 := by rw [u8s, List.length_map, hdb]
          have hofb := fun {w1} (h : Sl w1 1 (.slice ab b.length cb) b.length (u8s b)) => ofR_spec (k := k) w1 h (by omega) hk1 hk2
          have hzl : (u8s zD).length = 32 := by rw [u8s, List.length_map, zD_len]
          have hsame := fun {w1 u1 u2} h1 h2 => same1_spec (u := u1) (v := u2) (x := x) (y := b) w1 h1 h2 (by omega) (by omega)
          have hput2 := fun {D w1} (hR : PRep bs (oneS k la 1 d x st) D Lx) (hl : Lives (Lx ++ D) w1) h1 h3 => put_abs (v := .slice ab b.length cb) (y := b) (n := 2) (w0 := w1) hR okx hfew (by decide) hl h1 hrb h3 (by omega)
          by_cases hcl : clashes k d x b
          · have hobt := c1 hcl
            obtain ⟨e1, e2, e3⟩ := hobt
            obtain ⟨hc1, hc2, hc3⟩ := hcl
            simp only [e1, e2, e3] at hput2
            rw [hc1] at hofb
            have okz : (oneS k la 2 d x st).Ok := oneS_ok hk1 hk2 hd32 hxl
            have hrawz : (oneS k la 2 d x st).raw d = x := one_raw
            have hhasz : (oneS k la 2 d x st).has d = true := one_has
            have hrw2 := fun {L D w1} (hR : PRep bs (oneS k la 2 d x st) D L) (hl : Lives (L ++ D) w1) => raw_abs hR okz hl hd32
            rw [hrawz, hhasz] at hrw2
            rw [decide_eq_true hc2] at hwh
            simp only [decide_eq_false hc3] at hsame
            have hsame2 := fun {w1 u1 u2} h1 h2 => same1_spec (u := u1) (v := u2) (x := x) (y := x) w1 h1 h2 (by omega) (by omega)
            simp only [decide_true] at hsame2
            repeat (first | refine CW.seq ?_ | refine CW.block ?_ | refine CW.skip ?_ | refine CW.label ?_ | refine CW.exit ?_ | refine CW.condT rfl ?_ | refine CW.condF rfl ?_)
            refine CW.reg ?_
            refine WL.val rfl (run_move) ?_
            refine WL.val rfl (run_loadN ty27 rfl hdl hs.a0) ?_
            refine WL.enter rfl (run_call en16 rfl rfl) (hwh (Own.live (A := [_]) hs)) ?_
            rintro e w ⟨rfl, hq⟩
            refine ⟨_, rfl, ?_⟩
            replace hs := hs.callE hq
            refine WL.val rfl (run_assign) ?_
            refine WL.nil ?_
            repeat (first | refine CW.seq ?_ | refine CW.block ?_ | refine CW.skip ?_ | refine CW.label ?_ | refine CW.exit ?_ | refine CW.condT rfl ?_ | refine CW.condF rfl ?_)
            refine CW.reg ?_
            refine WL.val rfl (run_move) ?_
            refine WL.val rfl (run_loadN ty27 rfl hdl hs.a0) ?_
            refine WL.enter rfl (run_call en17 rfl rfl) (hrw (Own.live (A := [_]) hs)) ?_
            rintro e w ⟨v', Lv', rfl, hv', hq⟩
            refine ⟨_, rfl, ?_⟩
            replace hs := Own.keep (A := [_]) hs hq
            refine WL.val rfl (run_move) ?_
            refine WL.val rfl (run_extract rfl rfl) ?_
            refine WL.val rfl (run_extract rfl rfl) ?_
            refine WL.val rfl (run_assign) ?_
            refine WL.val rfl (run_assign) ?_
            refine WL.nil ?_
            have hnow : Held (Lv' ++ Dx) v' x := ⟨Lv', hv', fun p hp => List.mem_append_left _ hp⟩
            have hobt := hnow.form
            obtain ⟨xa, xc, rfl⟩ := hobt
            have hRy := hRx.mono (D' := Lv' ++ Dx) fun p hp => List.mem_append_right _ hp
            repeat (first | refine CW.seq ?_ | refine CW.block ?_ | refine CW.skip ?_ | refine CW.label ?_ | refine CW.exit ?_ | refine CW.condT rfl ?_ | refine CW.condF rfl ?_)
            refine CW.reg ?_
            refine WL.val rfl (run_move) ?_
            refine WL.val rfl (run_move) ?_
            refine WL.enter rfl (run_call en12 rfl rfl) (hput2 hRy (Own.live (A := [_]) hs) (hb.step0 hs.clear) (Own.old (A := [_]) hs hb)) ?_
            rintro e w ⟨L4, D4, rfl, hR4, hq⟩
            refine ⟨_, rfl, ?_⟩
            replace hs := Own.put (A := [_]) hs hq
            refine WL.val rfl (run_move) ?_
            refine WL.val rfl (run_extract rfl rfl) ?_
            refine WL.val rfl (run_extract rfl rfl) ?_
            refine WL.alloc ty27 rfl hs (fun b17 w hs => ?_)
            first | refine WL.storeAll ty27 rfl rfl ((hzl)) (Cells1.u8s _) hs (by first | rfl | assumption) (fun w hs => ?_) | refine WL.storeAll_1 ty27 rfl rfl ((hzl)) (Cells1.u8s _) hs (by first | rfl | assumption) (fun w hs => ?_) | refine WL.storeAll_2 ty27 rfl rfl ((hzl)) (Cells1.u8s _) hs (by first | rfl | assumption) (fun w hs => ?_) | refine WL.storeAll_3 ty27 rfl rfl ((hzl)) (Cells1.u8s _) hs (by first | rfl | assumption) (fun w hs => ?_) | refine WL.storeAll_4 ty27 rfl rfl ((hzl)) (Cells1.u8s _) hs (by first | rfl | assumption) (fun w hs => ?_) | refine WL.storeAll ty27 rfl rfl ((hzl)) (Cells1.u8s _) hs (by first | rfl | assumption) (fun w hs => ?_)
            refine WL.val rfl (run_assign) ?_
            refine WL.nil ?_
            have hnow4 := hnow.mono (D' := D4 ++ (Lv' ++ Dx)) fun p hp => List.mem_append_right _ hp
            repeat (first | refine CW.seq ?_ | refine CW.block ?_ | refine CW.skip ?_ | refine CW.label ?_ | refine CW.exit ?_ | refine CW.condT rfl ?_ | refine CW.condF rfl ?_)
            refine CW.quiet mixedP (by kernel_rfl) hs ?_
            refine QL.val rfl (fun w hs => run_move) ?_
            refine QL.enter rfl (fun w => run_call en14 rfl rfl) (fun w hs => width_abs hR4 okz (Own.live (A := [_, _]) hs)) ?_
            refine QL.val rfl (fun w hs => run_move) ?_
            refine QL.enter rfl (fun w => run_call en13 rfl rfl) (fun w hs => hofb (hb.step0 hs.clear)) ?_
            refine QL.val rfl (fun w hs => run_loadN ty27 rfl hdl hs.a1) ?_
            refine QL.val rfl (fun w hs => run_bT (run_eqDig hd32 hd32 rfl rfl) rfl) ?_
            refine QL.val rfl (fun w hs => run_move) ?_
            first | (refine QL.yes rfl rfl rfl ?_; refine QL.val rfl (fun w hs => run_move) ?_) | refine QL.no rfl rfl rfl (.inl rfl) ?_ | refine QL.no rfl rfl rfl (.inr rfl) ?_
            first | refine QL.val rfl (fun w hs => run_pickT rfl) ?_ | refine QL.val rfl (fun w hs => run_pickF rfl) ?_
            refine QL.val rfl (fun w hs => run_move) ?_
            first | (refine QL.yes rfl rfl rfl ?_; refine QL.val rfl (fun w hs => run_move) ?_) | refine QL.no rfl rfl rfl (.inl rfl) ?_ | refine QL.no rfl rfl rfl (.inr rfl) ?_
            first | (refine QL.yes rfl rfl rfl ?_; refine QL.val rfl (fun w hs => run_move) ?_) | refine QL.no rfl rfl rfl (.inl rfl) ?_ | refine QL.no rfl rfl rfl (.inr rfl) ?_
            refine QL.yes rfl rfl rfl ?_
            refine QL.enter rfl (fun w => run_call en18 rfl rfl) (fun w hs => hsame (Own.sl (A := [_, _]) hs hnow4) (hb.step0 hs.clear)) ?_
            first | (refine QL.yes rfl rfl rfl ?_; (first | refine QL.val rfl (fun w hs => run_notB rfl) ?_ | refine QL.val rfl (fun w hs => run_not rfl) ?_)) | refine QL.no rfl rfl rfl (.inl rfl) ?_ | refine QL.no rfl rfl rfl (.inr rfl) ?_
            first | refine QL.val rfl (fun w hs => run_pickT rfl) ?_ | refine QL.val rfl (fun w hs => run_pickF rfl) ?_
            refine QL.val rfl (fun w hs => run_assign) ?_
            refine QL.nil (fun w hs => ?_)
            repeat (first | refine CW.seq ?_ | refine CW.block ?_ | refine CW.skip ?_ | refine CW.label ?_ | refine CW.exit ?_ | refine CW.condT rfl ?_ | refine CW.condF rfl ?_)
            refine CW.reg ?_
            refine WL.val rfl (run_move) ?_
            refine WL.nil ?_
            repeat (first | refine CW.seq ?_ | refine CW.block ?_ | refine CW.skip ?_ | refine CW.label ?_ | refine CW.exit ?_)
            first | refine CW.condP rfl (fun h2 => ?_) (fun h2 => ?_) | refine CW.cond rfl (fun h2 => ?_) (fun h2 => ?_)
            · repeat (first | refine CW.seq ?_ | refine CW.block ?_ | refine CW.skip ?_ | refine CW.label ?_ | refine CW.exit ?_ | refine CW.condT rfl ?_ | refine CW.condF rfl ?_)
              refine CW.reg ?_
              refine WL.val rfl (run_move) ?_
              refine WL.val rfl (run_loadN ty27 rfl hdl hs.a1) ?_
              refine WL.enter rfl (run_call en17 rfl rfl) (hrw2 hR4 (Own.live (A := [_, _]) hs)) ?_
              rintro e w ⟨v5, Lv5, rfl, hv5, hq⟩
              refine ⟨_, rfl, ?_⟩
              replace hs := Own.keep (A := [_, _]) hs hq
              refine WL.val rfl (run_move) ?_
              refine WL.val rfl (run_extract rfl rfl) ?_
              refine WL.val rfl (run_extract rfl rfl) ?_
              refine WL.val rfl (run_assign) ?_
              refine WL.val rfl (run_assign) ?_
              refine WL.nil ?_
              have hnow5 := hnow4.mono (D' := Lv5 ++ (D4 ++ (Lv' ++ Dx))) fun p hp => List.mem_append_right _ hp
              have hthen : Held (Lv5 ++ (D4 ++ (Lv' ++ Dx))) v5 x := ⟨Lv5, hv5, fun p hp => List.mem_append_left _ hp⟩
              repeat (first | refine CW.seq ?_ | refine CW.block ?_ | refine CW.skip ?_ | refine CW.label ?_ | refine CW.exit ?_ | refine CW.condT rfl ?_ | refine CW.condF rfl ?_)
              refine CW.reg ?_
              refine WL.val rfl (run_move) ?_
              refine WL.val rfl (run_bT (run_eql rfl rfl) (by decide)) ?_
              refine WL.val rfl (run_move) ?_
              refine WL.yes rfl rfl rfl ?_
              refine WL.val rfl (run_loadN ty27 rfl hzl hs.a0) ?_
              refine WL.yes rfl rfl rfl ?_
              refine WL.val rfl (run_build rfl ((bld_dig _))) ?_
              refine WL.yes rfl rfl rfl ?_
              refine WL.val rfl (run_bT (run_eqDig zD_len zD_len rfl rfl) rfl) ?_
              first | refine WL.val rfl (run_pickT rfl) ?_ | refine WL.val rfl (run_pickF rfl) ?_
              refine WL.val rfl (run_move) ?_
              first | (refine WL.yes rfl rfl rfl ?_; refine WL.val rfl (run_move) ?_) | refine WL.no rfl rfl rfl (.inl rfl) ?_ | refine WL.no rfl rfl rfl (.inr rfl) ?_
              first | (refine WL.yes rfl rfl rfl ?_; refine WL.val rfl (run_move) ?_) | refine WL.no rfl rfl rfl (.inl rfl) ?_ | refine WL.no rfl rfl rfl (.inr rfl) ?_
              refine WL.yes rfl rfl rfl ?_
              refine WL.enter rfl (run_call en18 rfl rfl) (hsame2 (Own.sl (A := [_, _]) hs hthen) (Own.sl (A := [_, _]) hs hnow5)) ?_
              rintro e w ⟨rfl, hq⟩
              refine ⟨_, rfl, ?_⟩
              replace hs := hs.callE hq
              first | refine WL.val rfl (run_pickT rfl) ?_ | refine WL.val rfl (run_pickF rfl) ?_
              refine WL.val rfl (run_move) ?_
              refine WL.yes rfl rfl rfl ?_
              refine WL.enter rfl (run_call en10 rfl rfl) (head_spec _) ?_
              rintro e w ⟨rfl, hq⟩
              refine ⟨_, rfl, ?_⟩
              replace hs := hs.callE hq
              first | refine WL.val rfl (run_pickT rfl) ?_ | refine WL.val rfl (run_pickF rfl) ?_
              refine WL.val rfl (run_assign) ?_
              refine WL.nil ?_
              repeat (first | refine CW.seq ?_ | refine CW.block ?_ | refine CW.skip ?_ | refine CW.label ?_ | refine CW.exit ?_ | refine CW.condT rfl ?_ | refine CW.condF rfl ?_)
              refine CW.ret ?_
              refine fin_ret1 rfl ?_
              exact ⟨rfl, hs.clear⟩
            · cases h2
          · have e2 := c2 hcl
            have hobt := AS.put_get okx e2
            obtain ⟨pg1, pg2⟩ := hobt
            have ok4 := okx.put b
            have few4 := hfew.put b
            have hk4 : (oneS k la 1 d x st).k = k := rfl
            rw [hk4] at pg1 pg2
            simp only [e2, pg1] at hput2
            have hobt : ∃ s4, ((oneS k la 1 d x st).put b).2.2 = s4 := ⟨_, rfl⟩
            obtain ⟨s4, hs4⟩ := hobt
            have hks4 : s4.k = k := by rw [← hs4]; exact put_k _ _
            rw [hs4] at pg2 ok4 few4
            simp only [hs4] at hput2
            have hget4 := fun {L D w1} (hR : PRep bs s4 D L) (hl : Lives (L ++ D) w1) => get_abs hR ok4 few4 (by decide) hl hdb
            simp only [pg2] at hget4
            have hsame2 := fun {w1 u1 u2} h1 h2 => same1_spec (u := u1) (v := u2) (x := b) (y := b) w1 h1 h2 (by omega) (by omega)
            simp only [decide_true] at hsame2
            by_cases hA : frontL b k = d
            · rw [hA] at hofb
              by_cases hB : frontL x k = d
              · have hC : x = b := Decidable.byContradiction fun h => hcl ⟨hA, hB, h⟩
                rw [decide_eq_true hB] at hwh
                simp only [decide_eq_true hC] at hsame
                repeat (first | refine CW.seq ?_ | refine CW.block ?_ | refine CW.skip ?_ | refine CW.label ?_ | refine CW.exit ?_ | refine CW.condT rfl ?_ | refine CW.condF rfl ?_)
                refine CW.reg ?_
                refine WL.val rfl (run_move) ?_
                refine WL.val rfl (run_loadN ty27 rfl hdl hs.a0) ?_
                refine WL.enter rfl (run_call en16 rfl rfl) (hwh (Own.live (A := [_]) hs)) ?_
                rintro e w ⟨rfl, hq⟩
                refine ⟨_, rfl, ?_⟩
                replace hs := hs.callE hq
                refine WL.val rfl (run_assign) ?_
                refine WL.nil ?_
                repeat (first | refine CW.seq ?_ | refine CW.block ?_ | refine CW.skip ?_ | refine CW.label ?_ | refine CW.exit ?_ | refine CW.condT rfl ?_ | refine CW.condF rfl ?_)
                refine CW.reg ?_
                refine WL.val rfl (run_move) ?_
                refine WL.val rfl (run_loadN ty27 rfl hdl hs.a0) ?_
                refine WL.enter rfl (run_call en17 rfl rfl) (hrw (Own.live (A := [_]) hs)) ?_
                rintro e w ⟨v', Lv', rfl, hv', hq⟩
                refine ⟨_, rfl, ?_⟩
                replace hs := Own.keep (A := [_]) hs hq
                refine WL.val rfl (run_move) ?_
                refine WL.val rfl (run_extract rfl rfl) ?_
                refine WL.val rfl (run_extract rfl rfl) ?_
                refine WL.val rfl (run_assign) ?_
                refine WL.val rfl (run_assign) ?_
                refine WL.nil ?_
                have hnow : Held (Lv' ++ Dx) v' x := ⟨Lv', hv', fun p hp => List.mem_append_left _ hp⟩
                have hobt := hnow.form
                obtain ⟨xa, xc, rfl⟩ := hobt
                have hRy := hRx.mono (D' := Lv' ++ Dx) fun p hp => List.mem_append_right _ hp
                repeat (first | refine CW.seq ?_ | refine CW.block ?_ | refine CW.skip ?_ | refine CW.label ?_ | refine CW.exit ?_ | refine CW.condT rfl ?_ | refine CW.condF rfl ?_)
                refine CW.reg ?_
                refine WL.val rfl (run_move) ?_
                refine WL.val rfl (run_move) ?_
                refine WL.enter rfl (run_call en12 rfl rfl) (hput2 hRy (Own.live (A := [_]) hs) (hb.step0 hs.clear) (Own.old (A := [_]) hs hb)) ?_
                rintro e w ⟨L4, D4, rfl, hR4, hq⟩
                refine ⟨_, rfl, ?_⟩
                replace hs := Own.put (A := [_]) hs hq
                refine WL.val rfl (run_move) ?_
                refine WL.val rfl (run_extract rfl rfl) ?_
                refine WL.val rfl (run_extract rfl rfl) ?_
                refine WL.alloc ty27 rfl hs (fun b17 w hs => ?_)
                first | refine WL.storeAll ty27 rfl rfl ((hdbl)) (Cells1.u8s _) hs (by first | rfl | assumption) (fun w hs => ?_) | refine WL.storeAll_1 ty27 rfl rfl ((hdbl)) (Cells1.u8s _) hs (by first | rfl | assumption) (fun w hs => ?_) | refine WL.storeAll_2 ty27 rfl rfl ((hdbl)) (Cells1.u8s _) hs (by first | rfl | assumption) (fun w hs => ?_) | refine WL.storeAll_3 ty27 rfl rfl ((hdbl)) (Cells1.u8s _) hs (by first | rfl | assumption) (fun w hs => ?_) | refine WL.storeAll_4 ty27 rfl rfl ((hdbl)) (Cells1.u8s _) hs (by first | rfl | assumption) (fun w hs => ?_) | refine WL.storeAll ty27 rfl rfl ((hdbl)) (Cells1.u8s _) hs (by first | rfl | assumption) (fun w hs => ?_)
                refine WL.val rfl (run_assign) ?_
                refine WL.nil ?_
                have hnow4 := hnow.mono (D' := D4 ++ (Lv' ++ Dx)) fun p hp => List.mem_append_right _ hp
                have hwid := fun {w1} (hl : Lives (L4 ++ (D4 ++ (Lv' ++ Dx))) w1) => width_abs hR4 ok4 hl
                rw [hks4] at hwid
                repeat (first | refine CW.seq ?_ | refine CW.block ?_ | refine CW.skip ?_ | refine CW.label ?_ | refine CW.exit ?_ | refine CW.condT rfl ?_ | refine CW.condF rfl ?_)
                refine CW.quiet mixedP (by kernel_rfl) hs ?_
                refine QL.val rfl (fun w hs => run_move) ?_
                refine QL.enter rfl (fun w => run_call en14 rfl rfl) (fun w hs => hwid (Own.live (A := [_, _]) hs)) ?_
                refine QL.val rfl (fun w hs => run_move) ?_
                refine QL.enter rfl (fun w => run_call en13 rfl rfl) (fun w hs => hofb (hb.step0 hs.clear)) ?_
                refine QL.val rfl (fun w hs => run_loadN ty27 rfl hdl hs.a1) ?_
                refine QL.val rfl (fun w hs => run_bT (run_eqDig hd32 hd32 rfl rfl) rfl) ?_
                refine QL.val rfl (fun w hs => run_move) ?_
                first | (refine QL.yes rfl rfl rfl ?_; refine QL.val rfl (fun w hs => run_move) ?_) | refine QL.no rfl rfl rfl (.inl rfl) ?_ | refine QL.no rfl rfl rfl (.inr rfl) ?_
                first | refine QL.val rfl (fun w hs => run_pickT rfl) ?_ | refine QL.val rfl (fun w hs => run_pickF rfl) ?_
                refine QL.val rfl (fun w hs => run_move) ?_
                first | (refine QL.yes rfl rfl rfl ?_; refine QL.val rfl (fun w hs => run_move) ?_) | refine QL.no rfl rfl rfl (.inl rfl) ?_ | refine QL.no rfl rfl rfl (.inr rfl) ?_
                first | (refine QL.yes rfl rfl rfl ?_; refine QL.val rfl (fun w hs => run_move) ?_) | refine QL.no rfl rfl rfl (.inl rfl) ?_ | refine QL.no rfl rfl rfl (.inr rfl) ?_
                refine QL.yes rfl rfl rfl ?_
                refine QL.enter rfl (fun w => run_call en18 rfl rfl) (fun w hs => hsame (Own.sl (A := [_, _]) hs hnow4) (hb.step0 hs.clear)) ?_
                first | (refine QL.yes rfl rfl rfl ?_; (first | refine QL.val rfl (fun w hs => run_notB rfl) ?_ | refine QL.val rfl (fun w hs => run_not rfl) ?_)) | refine QL.no rfl rfl rfl (.inl rfl) ?_ | refine QL.no rfl rfl rfl (.inr rfl) ?_
                first | refine QL.val rfl (fun w hs => run_pickT rfl) ?_ | refine QL.val rfl (fun w hs => run_pickF rfl) ?_
                refine QL.val rfl (fun w hs => run_assign) ?_
                refine QL.nil (fun w hs => ?_)
                repeat (first | refine CW.seq ?_ | refine CW.block ?_ | refine CW.skip ?_ | refine CW.label ?_ | refine CW.exit ?_ | refine CW.condT rfl ?_ | refine CW.condF rfl ?_)
                refine CW.reg ?_
                refine WL.val rfl (run_move) ?_
                refine WL.nil ?_
                repeat (first | refine CW.seq ?_ | refine CW.block ?_ | refine CW.skip ?_ | refine CW.label ?_ | refine CW.exit ?_)
                first | refine CW.condP rfl (fun h2 => ?_) (fun h2 => ?_) | refine CW.cond rfl (fun h2 => ?_) (fun h2 => ?_)
                · cases h2
                · repeat (first | refine CW.seq ?_ | refine CW.block ?_ | refine CW.skip ?_ | refine CW.label ?_ | refine CW.exit ?_ | refine CW.condT rfl ?_ | refine CW.condF rfl ?_)
                  refine CW.reg ?_
                  refine WL.val rfl (run_move) ?_
                  refine WL.val rfl (run_loadN ty27 rfl hdbl hs.a0) ?_
                  refine WL.enter rfl (run_call en19 rfl rfl) (hget4 hR4 (Own.live (A := [_, _]) hs)) ?_
                  rintro e w ⟨v5, Lv5, L5, rfl, hv5, hR5, hq⟩
                  refine ⟨_, rfl, ?_⟩
                  replace hs := Own.put (A := [_, _]) hs hq
                  refine WL.val rfl (run_move) ?_
                  refine WL.val rfl (run_extract rfl rfl) ?_
                  refine WL.val rfl (run_extract rfl rfl) ?_
                  refine WL.val rfl (run_assign) ?_
                  refine WL.val rfl (run_assign) ?_
                  refine WL.nil ?_
                  have hgot : Held (Lv5 ++ (D4 ++ (Lv' ++ Dx))) v5 b := ⟨Lv5, hv5, fun p hp => List.mem_append_left _ hp⟩
                  repeat (first | refine CW.seq ?_ | refine CW.block ?_ | refine CW.skip ?_ | refine CW.label ?_ | refine CW.exit ?_ | refine CW.condT rfl ?_ | refine CW.condF rfl ?_)
                  refine CW.reg ?_
                  refine WL.val rfl (run_move) ?_
                  refine WL.val rfl (run_bT (run_eql rfl rfl) (by decide)) ?_
                  refine WL.val rfl (run_move) ?_
                  first | (refine WL.yes rfl rfl rfl ?_; refine WL.val rfl (run_move) ?_) | refine WL.no rfl rfl rfl (.inl rfl) ?_ | refine WL.no rfl rfl rfl (.inr rfl) ?_
                  refine WL.yes rfl rfl rfl ?_
                  refine WL.val rfl (run_bT (run_eql rfl rfl) (by decide)) ?_
                  first | refine WL.val rfl (run_pickT rfl) ?_ | refine WL.val rfl (run_pickF rfl) ?_
                  refine WL.val rfl (run_move) ?_
                  first | (refine WL.yes rfl rfl rfl ?_; refine WL.val rfl (run_move) ?_) | refine WL.no rfl rfl rfl (.inl rfl) ?_ | refine WL.no rfl rfl rfl (.inr rfl) ?_
                  first | (refine WL.yes rfl rfl rfl ?_; refine WL.val rfl (run_move) ?_) | refine WL.no rfl rfl rfl (.inl rfl) ?_ | refine WL.no rfl rfl rfl (.inr rfl) ?_
                  refine WL.yes rfl rfl rfl ?_
                  refine WL.enter rfl (run_call en18 rfl rfl) (hsame2 (Own.sl (A := [_, _]) hs hgot) (hb.step0 hs.clear)) ?_
                  rintro e w ⟨rfl, hq⟩
                  refine ⟨_, rfl, ?_⟩
                  replace hs := hs.callE hq
                  first | refine WL.val rfl (run_pickT rfl) ?_ | refine WL.val rfl (run_pickF rfl) ?_
                  refine WL.val rfl (run_move) ?_
                  refine WL.yes rfl rfl rfl ?_
                  refine WL.enter rfl (run_call en10 rfl rfl) (head_spec _) ?_
                  rintro e w ⟨rfl, hq⟩
                  refine ⟨_, rfl, ?_⟩
                  replace hs := hs.callE hq
                  first | refine WL.val rfl (run_pickT rfl) ?_ | refine WL.val rfl (run_pickF rfl) ?_
                  refine WL.val rfl (run_assign) ?_
                  refine WL.nil ?_
                  repeat (first | refine CW.seq ?_ | refine CW.block ?_ | refine CW.skip ?_ | refine CW.label ?_ | refine CW.exit ?_ | refine CW.condT rfl ?_ | refine CW.condF rfl ?_)
                  refine CW.ret ?_
                  refine fin_ret1 rfl ?_
                  exact ⟨rfl, hs.clear⟩
              · rw [decide_eq_false hB] at hwh
                repeat (first | refine CW.seq ?_ | refine CW.block ?_ | refine CW.skip ?_ | refine CW.label ?_ | refine CW.exit ?_ | refine CW.condT rfl ?_ | refine CW.condF rfl ?_)
                refine CW.reg ?_
                refine WL.val rfl (run_move) ?_
                refine WL.val rfl (run_loadN ty27 rfl hdl hs.a0) ?_
                refine WL.enter rfl (run_call en16 rfl rfl) (hwh (Own.live (A := [_]) hs)) ?_
                rintro e w ⟨rfl, hq⟩
                refine ⟨_, rfl, ?_⟩
                replace hs := hs.callE hq
                refine WL.val rfl (run_assign) ?_
                refine WL.nil ?_
                repeat (first | refine CW.seq ?_ | refine CW.block ?_ | refine CW.skip ?_ | refine CW.label ?_ | refine CW.exit ?_ | refine CW.condT rfl ?_ | refine CW.condF rfl ?_)
                refine CW.reg ?_
                refine WL.val rfl (run_move) ?_
                refine WL.val rfl (run_loadN ty27 rfl hdl hs.a0) ?_
                refine WL.enter rfl (run_call en17 rfl rfl) (hrw (Own.live (A := [_]) hs)) ?_
                rintro e w ⟨v', Lv', rfl, hv', hq⟩
                refine ⟨_, rfl, ?_⟩
                replace hs := Own.keep (A := [_]) hs hq
                refine WL.val rfl (run_move) ?_
                refine WL.val rfl (run_extract rfl rfl) ?_
                refine WL.val rfl (run_extract rfl rfl) ?_
                refine WL.val rfl (run_assign) ?_
                refine WL.val rfl (run_assign) ?_
                refine WL.nil ?_
                have hnow : Held (Lv' ++ Dx) v' x := ⟨Lv', hv', fun p hp => List.mem_append_left _ hp⟩
                have hobt := hnow.form
                obtain ⟨xa, xc, rfl⟩ := hobt
                have hRy := hRx.mono (D' := Lv' ++ Dx) fun p hp => List.mem_append_right _ hp
                repeat (first | refine CW.seq ?_ | refine CW.block ?_ | refine CW.skip ?_ | refine CW.label ?_ | refine CW.exit ?_ | refine CW.condT rfl ?_ | refine CW.condF rfl ?_)
                refine CW.reg ?_
                refine WL.val rfl (run_move) ?_
                refine WL.val rfl (run_move) ?_
                refine WL.enter rfl (run_call en12 rfl rfl) (hput2 hRy (Own.live (A := [_]) hs) (hb.step0 hs.clear) (Own.old (A := [_]) hs hb)) ?_
                rintro e w ⟨L4, D4, rfl, hR4, hq⟩
                refine ⟨_, rfl, ?_⟩
                replace hs := Own.put (A := [_]) hs hq
                refine WL.val rfl (run_move) ?_
                refine WL.val rfl (run_extract rfl rfl) ?_
                refine WL.val rfl (run_extract rfl rfl) ?_
                refine WL.alloc ty27 rfl hs (fun b17 w hs => ?_)
                first | refine WL.storeAll ty27 rfl rfl ((hdbl)) (Cells1.u8s _) hs (by first | rfl | assumption) (fun w hs => ?_) | refine WL.storeAll_1 ty27 rfl rfl ((hdbl)) (Cells1.u8s _) hs (by first | rfl | assumption) (fun w hs => ?_) | refine WL.storeAll_2 ty27 rfl rfl ((hdbl)) (Cells1.u8s _) hs (by first | rfl | assumption) (fun w hs => ?_) | refine WL.storeAll_3 ty27 rfl rfl ((hdbl)) (Cells1.u8s _) hs (by first | rfl | assumption) (fun w hs => ?_) | refine WL.storeAll_4 ty27 rfl rfl ((hdbl)) (Cells1.u8s _) hs (by first | rfl | assumption) (fun w hs => ?_) | refine WL.storeAll ty27 rfl rfl ((hdbl)) (Cells1.u8s _) hs (by first | rfl | assumption) (fun w hs => ?_)
                refine WL.val rfl (run_assign) ?_
                refine WL.nil ?_
                have hnow4 := hnow.mono (D' := D4 ++ (Lv' ++ Dx)) fun p hp => List.mem_append_right _ hp
                have hwid := fun {w1} (hl : Lives (L4 ++ (D4 ++ (Lv' ++ Dx))) w1) => width_abs hR4 ok4 hl
                rw [hks4] at hwid
                repeat (first | refine CW.seq ?_ | refine CW.block ?_ | refine CW.skip ?_ | refine CW.label ?_ | refine CW.exit ?_ | refine CW.condT rfl ?_ | refine CW.condF rfl ?_)
                refine CW.quiet mixedP (by kernel_rfl) hs ?_
                refine QL.val rfl (fun w hs => run_move) ?_
                refine QL.enter rfl (fun w => run_call en14 rfl rfl) (fun w hs => hwid (Own.live (A := [_, _]) hs)) ?_
                refine QL.val rfl (fun w hs => run_move) ?_
                refine QL.enter rfl (fun w => run_call en13 rfl rfl) (fun w hs => hofb (hb.step0 hs.clear)) ?_
                refine QL.val rfl (fun w hs => run_loadN ty27 rfl hdl hs.a1) ?_
                refine QL.val rfl (fun w hs => run_bT (run_eqDig hd32 hd32 rfl rfl) rfl) ?_
                refine QL.val rfl (fun w hs => run_move) ?_
                first | (refine QL.yes rfl rfl rfl ?_; refine QL.val rfl (fun w hs => run_move) ?_) | refine QL.no rfl rfl rfl (.inl rfl) ?_ | refine QL.no rfl rfl rfl (.inr rfl) ?_
                first | refine QL.val rfl (fun w hs => run_pickT rfl) ?_ | refine QL.val rfl (fun w hs => run_pickF rfl) ?_
                refine QL.val rfl (fun w hs => run_move) ?_
                first | (refine QL.yes rfl rfl rfl ?_; refine QL.val rfl (fun w hs => run_move) ?_) | refine QL.no rfl rfl rfl (.inl rfl) ?_ | refine QL.no rfl rfl rfl (.inr rfl) ?_
                first | (refine QL.yes rfl rfl rfl ?_; refine QL.val rfl (fun w hs => run_move) ?_) | refine QL.no rfl rfl rfl (.inl rfl) ?_ | refine QL.no rfl rfl rfl (.inr rfl) ?_
                first | refine QL.no rfl rfl rfl (.inl rfl) ?_ | refine QL.no rfl rfl rfl (.inr rfl) ?_
                first | (refine QL.yes rfl rfl rfl ?_; (first | refine QL.val rfl (fun w hs => run_notB rfl) ?_ | refine QL.val rfl (fun w hs => run_not rfl) ?_)) | refine QL.no rfl rfl rfl (.inl rfl) ?_ | refine QL.no rfl rfl rfl (.inr rfl) ?_
                first | refine QL.val rfl (fun w hs => run_pickT rfl) ?_ | refine QL.val rfl (fun w hs => run_pickF rfl) ?_
                refine QL.val rfl (fun w hs => run_assign) ?_
                refine QL.nil (fun w hs => ?_)
                repeat (first | refine CW.seq ?_ | refine CW.block ?_ | refine CW.skip ?_ | refine CW.label ?_ | refine CW.exit ?_ | refine CW.condT rfl ?_ | refine CW.condF rfl ?_)
                refine CW.reg ?_
                refine WL.val rfl (run_move) ?_
                refine WL.nil ?_
                repeat (first | refine CW.seq ?_ | refine CW.block ?_ | refine CW.skip ?_ | refine CW.label ?_ | refine CW.exit ?_)
                first | refine CW.condP rfl (fun h2 => ?_) (fun h2 => ?_) | refine CW.cond rfl (fun h2 => ?_) (fun h2 => ?_)
                · cases h2
                · repeat (first | refine CW.seq ?_ | refine CW.block ?_ | refine CW.skip ?_ | refine CW.label ?_ | refine CW.exit ?_ | refine CW.condT rfl ?_ | refine CW.condF rfl ?_)
                  refine CW.reg ?_
                  refine WL.val rfl (run_move) ?_
                  refine WL.val rfl (run_loadN ty27 rfl hdbl hs.a0) ?_
                  refine WL.enter rfl (run_call en19 rfl rfl) (hget4 hR4 (Own.live (A := [_, _]) hs)) ?_
                  rintro e w ⟨v5, Lv5, L5, rfl, hv5, hR5, hq⟩
                  refine ⟨_, rfl, ?_⟩
                  replace hs := Own.put (A := [_, _]) hs hq
                  refine WL.val rfl (run_move) ?_
                  refine WL.val rfl (run_extract rfl rfl) ?_
                  refine WL.val rfl (run_extract rfl rfl) ?_
                  refine WL.val rfl (run_assign) ?_
                  refine WL.val rfl (run_assign) ?_
                  refine WL.nil ?_
                  have hgot : Held (Lv5 ++ (D4 ++ (Lv' ++ Dx))) v5 b := ⟨Lv5, hv5, fun p hp => List.mem_append_left _ hp⟩
                  repeat (first | refine CW.seq ?_ | refine CW.block ?_ | refine CW.skip ?_ | refine CW.label ?_ | refine CW.exit ?_ | refine CW.condT rfl ?_ | refine CW.condF rfl ?_)
                  refine CW.reg ?_
                  refine WL.val rfl (run_move) ?_
                  refine WL.val rfl (run_bT (run_eql rfl rfl) (by decide)) ?_
                  refine WL.val rfl (run_move) ?_
                  first | (refine WL.yes rfl rfl rfl ?_; refine WL.val rfl (run_move) ?_) | refine WL.no rfl rfl rfl (.inl rfl) ?_ | refine WL.no rfl rfl rfl (.inr rfl) ?_
                  refine WL.yes rfl rfl rfl ?_
                  refine WL.val rfl (run_bT (run_eql rfl rfl) (by decide)) ?_
                  first | refine WL.val rfl (run_pickT rfl) ?_ | refine WL.val rfl (run_pickF rfl) ?_
                  refine WL.val rfl (run_move) ?_
                  first | (refine WL.yes rfl rfl rfl ?_; refine WL.val rfl (run_move) ?_) | refine WL.no rfl rfl rfl (.inl rfl) ?_ | refine WL.no rfl rfl rfl (.inr rfl) ?_
                  first | (refine WL.yes rfl rfl rfl ?_; refine WL.val rfl (run_move) ?_) | refine WL.no rfl rfl rfl (.inl rfl) ?_ | refine WL.no rfl rfl rfl (.inr rfl) ?_
                  refine WL.yes rfl rfl rfl ?_
                  refine WL.enter rfl (run_call en18 rfl rfl) (hsame2 (Own.sl (A := [_, _]) hs hgot) (hb.step0 hs.clear)) ?_
                  rintro e w ⟨rfl, hq⟩
                  refine ⟨_, rfl, ?_⟩
                  replace hs := hs.callE hq
                  first | refine WL.val rfl (run_pickT rfl) ?_ | refine WL.val rfl (run_pickF rfl) ?_
                  refine WL.val rfl (run_move) ?_
                  refine WL.yes rfl rfl rfl ?_
                  refine WL.enter rfl (run_call en10 rfl rfl) (head_spec _) ?_
                  rintro e w ⟨rfl, hq⟩
                  refine ⟨_, rfl, ?_⟩
                  replace hs := hs.callE hq
                  first | refine WL.val rfl (run_pickT rfl) ?_ | refine WL.val rfl (run_pickF rfl) ?_
                  refine WL.val rfl (run_assign) ?_
                  refine WL.nil ?_
                  repeat (first | refine CW.seq ?_ | refine CW.block ?_ | refine CW.skip ?_ | refine CW.label ?_ | refine CW.exit ?_ | refine CW.condT rfl ?_ | refine CW.condF rfl ?_)
                  refine CW.ret ?_
                  refine fin_ret1 rfl ?_
                  exact ⟨rfl, hs.clear⟩
            · repeat (first | refine CW.seq ?_ | refine CW.block ?_ | refine CW.skip ?_ | refine CW.label ?_ | refine CW.exit ?_ | refine CW.condT rfl ?_ | refine CW.condF rfl ?_)
              refine CW.reg ?_
              refine WL.val rfl (run_move) ?_
              refine WL.val rfl (run_loadN ty27 rfl hdl hs.a0) ?_
              refine WL.enter rfl (run_call en16 rfl rfl) (hwh (Own.live (A := [_]) hs)) ?_
              rintro e w ⟨rfl, hq⟩
              refine ⟨_, rfl, ?_⟩
              replace hs := hs.callE hq
              refine WL.val rfl (run_assign) ?_
              refine WL.nil ?_
              repeat (first | refine CW.seq ?_ | refine CW.block ?_ | refine CW.skip ?_ | refine CW.label ?_ | refine CW.exit ?_ | refine CW.condT rfl ?_ | refine CW.condF rfl ?_)
              refine CW.reg ?_
              refine WL.val rfl (run_move) ?_
              refine WL.val rfl (run_loadN ty27 rfl hdl hs.a0) ?_
              refine WL.enter rfl (run_call en17 rfl rfl) (hrw (Own.live (A := [_]) hs)) ?_
              rintro e w ⟨v', Lv', rfl, hv', hq⟩
              refine ⟨_, rfl, ?_⟩
              replace hs := Own.keep (A := [_]) hs hq
              refine WL.val rfl (run_move) ?_
              refine WL.val rfl (run_extract rfl rfl) ?_
              refine WL.val rfl (run_extract rfl rfl) ?_
              refine WL.val rfl (run_assign) ?_
              refine WL.val rfl (run_assign) ?_
              refine WL.nil ?_
              have hnow : Held (Lv' ++ Dx) v' x := ⟨Lv', hv', fun p hp => List.mem_append_left _ hp⟩
              have hobt := hnow.form
              obtain ⟨xa, xc, rfl⟩ := hobt
              have hRy := hRx.mono (D' := Lv' ++ Dx) fun p hp => List.mem_append_right _ hp
              repeat (first | refine CW.seq ?_ | refine CW.block ?_ | refine CW.skip ?_ | refine CW.label ?_ | refine CW.exit ?_ | refine CW.condT rfl ?_ | refine CW.condF rfl ?_)
              refine CW.reg ?_
              refine WL.val rfl (run_move) ?_
              refine WL.val rfl (run_move) ?_
              refine WL.enter rfl (run_call en12 rfl rfl) (hput2 hRy (Own.live (A := [_]) hs) (hb.step0 hs.clear) (Own.old (A := [_]) hs hb)) ?_
              rintro e w ⟨L4, D4, rfl, hR4, hq⟩
              refine ⟨_, rfl, ?_⟩
              replace hs := Own.put (A := [_]) hs hq
              refine WL.val rfl (run_move) ?_
              refine WL.val rfl (run_extract rfl rfl) ?_
              refine WL.val rfl (run_extract rfl rfl) ?_
              refine WL.alloc ty27 rfl hs (fun b17 w hs => ?_)
              first | refine WL.storeAll ty27 rfl rfl ((hdbl)) (Cells1.u8s _) hs (by first | rfl | assumption) (fun w hs => ?_) | refine WL.storeAll_1 ty27 rfl rfl ((hdbl)) (Cells1.u8s _) hs (by first | rfl | assumption) (fun w hs => ?_) | refine WL.storeAll_2 ty27 rfl rfl ((hdbl)) (Cells1.u8s _) hs (by first | rfl | assumption) (fun w hs => ?_) | refine WL.storeAll_3 ty27 rfl rfl ((hdbl)) (Cells1.u8s _) hs (by first | rfl | assumption) (fun w hs => ?_) | refine WL.storeAll_4 ty27 rfl rfl ((hdbl)) (Cells1.u8s _) hs (by first | rfl | assumption) (fun w hs => ?_) | refine WL.storeAll ty27 rfl rfl ((hdbl)) (Cells1.u8s _) hs (by first | rfl | assumption) (fun w hs => ?_)
              refine WL.val rfl (run_assign) ?_
              refine WL.nil ?_
              have hnow4 := hnow.mono (D' := D4 ++ (Lv' ++ Dx)) fun p hp => List.mem_append_right _ hp
              have hwid := fun {w1} (hl : Lives (L4 ++ (D4 ++ (Lv' ++ Dx))) w1) => width_abs hR4 ok4 hl
              rw [hks4] at hwid
              repeat (first | refine CW.seq ?_ | refine CW.block ?_ | refine CW.skip ?_ | refine CW.label ?_ | refine CW.exit ?_ | refine CW.condT rfl ?_ | refine CW.condF rfl ?_)
              refine CW.quiet mixedP (by kernel_rfl) hs ?_
              refine QL.val rfl (fun w hs => run_move) ?_
              refine QL.enter rfl (fun w => run_call en14 rfl rfl) (fun w hs => hwid (Own.live (A := [_, _]) hs)) ?_
              refine QL.val rfl (fun w hs => run_move) ?_
              refine QL.enter rfl (fun w => run_call en13 rfl rfl) (fun w hs => hofb (hb.step0 hs.clear)) ?_
              refine QL.val rfl (fun w hs => run_loadN ty27 rfl hdl hs.a1) ?_
              refine QL.val rfl (fun w hs => run_bF (run_eqDig hdb hd32 rfl rfl) hA) ?_
              refine QL.val rfl (fun w hs => run_move) ?_
              first | (refine QL.yes rfl rfl rfl ?_; refine QL.val rfl (fun w hs => run_move) ?_) | refine QL.no rfl rfl rfl (.inl rfl) ?_ | refine QL.no rfl rfl rfl (.inr rfl) ?_
              first | refine QL.val rfl (fun w hs => run_pickT rfl) ?_ | refine QL.val rfl (fun w hs => run_pickF rfl) ?_
              refine QL.val rfl (fun w hs => run_move) ?_
              first | (refine QL.yes rfl rfl rfl ?_; refine QL.val rfl (fun w hs => run_move) ?_) | refine QL.no rfl rfl rfl (.inl rfl) ?_ | refine QL.no rfl rfl rfl (.inr rfl) ?_
              first | (refine QL.yes rfl rfl rfl ?_; refine QL.val rfl (fun w hs => run_move) ?_) | refine QL.no rfl rfl rfl (.inl rfl) ?_ | refine QL.no rfl rfl rfl (.inr rfl) ?_
              first | refine QL.no rfl rfl rfl (.inl rfl) ?_ | refine QL.no rfl rfl rfl (.inr rfl) ?_
              first | (refine QL.yes rfl rfl rfl ?_; (first | refine QL.val rfl (fun w hs => run_notB rfl) ?_ | refine QL.val rfl (fun w hs => run_not rfl) ?_)) | refine QL.no rfl rfl rfl (.inl rfl) ?_ | refine QL.no rfl rfl rfl (.inr rfl) ?_
              first | refine QL.val rfl (fun w hs => run_pickT rfl) ?_ | refine QL.val rfl (fun w hs => run_pickF rfl) ?_
              refine QL.val rfl (fun w hs => run_assign) ?_
              refine QL.nil (fun w hs => ?_)
              repeat (first | refine CW.seq ?_ | refine CW.block ?_ | refine CW.skip ?_ | refine CW.label ?_ | refine CW.exit ?_ | refine CW.condT rfl ?_ | refine CW.condF rfl ?_)
              refine CW.reg ?_
              refine WL.val rfl (run_move) ?_
              refine WL.nil ?_
              repeat (first | refine CW.seq ?_ | refine CW.block ?_ | refine CW.skip ?_ | refine CW.label ?_ | refine CW.exit ?_)
              first | refine CW.condP rfl (fun h2 => ?_) (fun h2 => ?_) | refine CW.cond rfl (fun h2 => ?_) (fun h2 => ?_)
              · cases h2
              · repeat (first | refine CW.seq ?_ | refine CW.block ?_ | refine CW.skip ?_ | refine CW.label ?_ | refine CW.exit ?_ | refine CW.condT rfl ?_ | refine CW.condF rfl ?_)
                refine CW.reg ?_
                refine WL.val rfl (run_move) ?_
                refine WL.val rfl (run_loadN ty27 rfl hdbl hs.a0) ?_
                refine WL.enter rfl (run_call en19 rfl rfl) (hget4 hR4 (Own.live (A := [_, _]) hs)) ?_
                rintro e w ⟨v5, Lv5, L5, rfl, hv5, hR5, hq⟩
                refine ⟨_, rfl, ?_⟩
                replace hs := Own.put (A := [_, _]) hs hq
                refine WL.val rfl (run_move) ?_
                refine WL.val rfl (run_extract rfl rfl) ?_
                refine WL.val rfl (run_extract rfl rfl) ?_
                refine WL.val rfl (run_assign) ?_
                refine WL.val rfl (run_assign) ?_
                refine WL.nil ?_
                have hgot : Held (Lv5 ++ (D4 ++ (Lv' ++ Dx))) v5 b := ⟨Lv5, hv5, fun p hp => List.mem_append_left _ hp⟩
                repeat (first | refine CW.seq ?_ | refine CW.block ?_ | refine CW.skip ?_ | refine CW.label ?_ | refine CW.exit ?_ | refine CW.condT rfl ?_ | refine CW.condF rfl ?_)
                refine CW.reg ?_
                refine WL.val rfl (run_move) ?_
                refine WL.val rfl (run_bT (run_eql rfl rfl) (by decide)) ?_
                refine WL.val rfl (run_move) ?_
                first | (refine WL.yes rfl rfl rfl ?_; refine WL.val rfl (run_move) ?_) | refine WL.no rfl rfl rfl (.inl rfl) ?_ | refine WL.no rfl rfl rfl (.inr rfl) ?_
                refine WL.yes rfl rfl rfl ?_
                refine WL.val rfl (run_bT (run_eql rfl rfl) (by decide)) ?_
                first | refine WL.val rfl (run_pickT rfl) ?_ | refine WL.val rfl (run_pickF rfl) ?_
                refine WL.val rfl (run_move) ?_
                first | (refine WL.yes rfl rfl rfl ?_; refine WL.val rfl (run_move) ?_) | refine WL.no rfl rfl rfl (.inl rfl) ?_ | refine WL.no rfl rfl rfl (.inr rfl) ?_
                first | (refine WL.yes rfl rfl rfl ?_; refine WL.val rfl (run_move) ?_) | refine WL.no rfl rfl rfl (.inl rfl) ?_ | refine WL.no rfl rfl rfl (.inr rfl) ?_
                refine WL.yes rfl rfl rfl ?_
                refine WL.enter rfl (run_call en18 rfl rfl) (hsame2 (Own.sl (A := [_, _]) hs hgot) (hb.step0 hs.clear)) ?_
                rintro e w ⟨rfl, hq⟩
                refine ⟨_, rfl, ?_⟩
                replace hs := hs.callE hq
                first | refine WL.val rfl (run_pickT rfl) ?_ | refine WL.val rfl (run_pickF rfl) ?_
                refine WL.val rfl (run_move) ?_
                refine WL.yes rfl rfl rfl ?_
                refine WL.enter rfl (run_call en10 rfl rfl) (head_spec _) ?_
                rintro e w ⟨rfl, hq⟩
                refine ⟨_, rfl, ?_⟩
                replace hs := hs.callE hq
                first | refine WL.val rfl (run_pickT rfl) ?_ | refine WL.val rfl (run_pickF rfl) ?_
                refine WL.val rfl (run_assign) ?_
                refine WL.nil ?_
                repeat (first | refine CW.seq ?_ | refine CW.block ?_ | refine CW.skip ?_ | refine CW.label ?_ | refine CW.exit ?_ | refine CW.condT rfl ?_ | refine CW.condF rfl ?_)
                refine CW.ret ?_
                refine fin_ret1 rfl ?_
                exact ⟨rfl, hs.clear⟩
        · cases h
    · refine calls (n := 147) Try.func3 rfl rfl rfl ?_
      repeat (first | refine CW.seq ?_ | refine CW.block ?_ | refine CW.skip ?_ | refine CW.label ?_ | refine CW.exit ?_ | refine CW.condT rfl ?_ | refine CW.condF rfl ?_)
      refine CW.reg ?_
      refine WL.val rfl (run_assign) ?_
      refine WL.nil ?_
      repeat (first | refine CW.seq ?_ | refine CW.block ?_ | refine CW.skip ?_ | refine CW.label ?_ | refine CW.exit ?_ | refine CW.condT rfl ?_ | refine CW.condF rfl ?_)
      refine CW.reg ?_
      refine WL.val rfl (run_move) ?_
      refine WL.val rfl (run_lenSl Try.underlying22 rfl) ?_
      refine WL.val rfl (run_bF (run_gtr rfl rfl) (by omega)) ?_
      refine WL.val rfl (run_move) ?_
      first | (refine WL.yes rfl rfl rfl ?_; refine WL.val rfl (run_move) ?_) | refine WL.no rfl rfl rfl (.inl rfl) ?_ | refine WL.no rfl rfl rfl (.inr rfl) ?_
      first | (refine WL.yes rfl rfl rfl ?_; refine WL.val rfl (run_lenSl Try.underlying22 rfl) ?_) | refine WL.no rfl rfl rfl (.inl rfl) ?_ | refine WL.no rfl rfl rfl (.inr rfl) ?_
      refine WL.yes rfl rfl rfl ?_
      refine WL.val rfl (run_bT (run_gtr rfl rfl) (by omega)) ?_
      first | refine WL.val rfl (run_pickT rfl) ?_ | refine WL.val rfl (run_pickF rfl) ?_
      refine WL.nil ?_
      repeat (first | refine CW.seq ?_ | refine CW.block ?_ | refine CW.skip ?_ | refine CW.label ?_ | refine CW.exit ?_)
      first | refine CW.condP rfl (fun h => ?_) (fun h => ?_) | refine CW.cond rfl (fun h => ?_) (fun h => ?_)
      · repeat (first | refine CW.seq ?_ | refine CW.block ?_ | refine CW.skip ?_ | refine CW.label ?_ | refine CW.exit ?_ | refine CW.condT rfl ?_ | refine CW.condF rfl ?_)
        refine CW.reg ?_
        refine WL.enter rfl (run_call en10 rfl rfl) (head_spec _) ?_
        rintro e w ⟨rfl, hq⟩
        refine ⟨_, rfl, ?_⟩
        replace hs := hs.callE hq
        refine WL.val rfl (run_assign) ?_
        refine WL.nil ?_
        repeat (first | refine CW.seq ?_ | refine CW.block ?_ | refine CW.skip ?_ | refine CW.label ?_ | refine CW.exit ?_ | refine CW.condT rfl ?_ | refine CW.condF rfl ?_)
        refine CW.ret ?_
        refine fin_ret1 rfl ?_
        exact ⟨rfl, hs.clear⟩
      · cases h
  · refine calls (n := 147) Try.func3 rfl rfl rfl ?_
    repeat (first | refine CW.seq ?_ | refine CW.block ?_ | refine CW.skip ?_ | refine CW.label ?_ | refine CW.exit ?_ | refine CW.condT rfl ?_ | refine CW.condF rfl ?_)
    refine CW.reg ?_
    refine WL.val rfl (run_assign) ?_
    refine WL.nil ?_
    repeat (first | refine CW.seq ?_ | refine CW.block ?_ | refine CW.skip ?_ | refine CW.label ?_ | refine CW.exit ?_ | refine CW.condT rfl ?_ | refine CW.condF rfl ?_)
    refine CW.reg ?_
    refine WL.val rfl (run_move) ?_
    refine WL.val rfl (run_lenSl Try.underlying22 rfl) ?_
    refine WL.val rfl (run_bT (run_gtr rfl rfl) (by omega)) ?_
    refine WL.val rfl (run_move) ?_
    first | (refine WL.yes rfl rfl rfl ?_; refine WL.val rfl (run_move) ?_) | refine WL.no rfl rfl rfl (.inl rfl) ?_ | refine WL.no rfl rfl rfl (.inr rfl) ?_
    first | (refine WL.yes rfl rfl rfl ?_; refine WL.val rfl (run_lenSl Try.underlying22 rfl) ?_) | refine WL.no rfl rfl rfl (.inl rfl) ?_ | refine WL.no rfl rfl rfl (.inr rfl) ?_
    first | refine WL.no rfl rfl rfl (.inl rfl) ?_ | refine WL.no rfl rfl rfl (.inr rfl) ?_
    first | refine WL.val rfl (run_pickT rfl) ?_ | refine WL.val rfl (run_pickF rfl) ?_
    refine WL.nil ?_
    repeat (first | refine CW.seq ?_ | refine CW.block ?_ | refine CW.skip ?_ | refine CW.label ?_ | refine CW.exit ?_)
    first | refine CW.condP rfl (fun h => ?_) (fun h => ?_) | refine CW.cond rfl (fun h => ?_) (fun h => ?_)
    · repeat (first | refine CW.seq ?_ | refine CW.block ?_ | refine CW.skip ?_ | refine CW.label ?_ | refine CW.exit ?_ | refine CW.condT rfl ?_ | refine CW.condF rfl ?_)
      refine CW.reg ?_
      refine WL.enter rfl (run_call en10 rfl rfl) (head_spec _) ?_
      rintro e w ⟨rfl, hq⟩
      refine ⟨_, rfl, ?_⟩
      replace hs := hs.callE hq
      refine WL.val rfl (run_assign) ?_
      refine WL.nil ?_
      repeat (first | refine CW.seq ?_ | refine CW.block ?_ | refine CW.skip ?_ | refine CW.label ?_ | refine CW.exit ?_ | refine CW.condT rfl ?_ | refine CW.condF rfl ?_)
      refine CW.ret ?_
      refine fin_ret1 rfl ?_
      exact ⟨rfl, hs.clear⟩
    · cases h
end Go.Gx
/-! CFrame -/
namespace Go.Gx
open Go.Proofs Go.ChangeShapes Go.WideShapes Go.ChangeAt Go.RowKit Go.Deep
open Go.Proofs.Ytakhjiecinpmiaa (Rows.uptoBulk Rows.uptoBulkAll)
set_option linter.unusedVariables false
set_option linter.unusedSimpArgs false
set_option maxRecDepth 100000
theorem Step.below {L : List (Nat × Obj)} {w w' : World} (h : Step [] L w w') : Below w.heap.size w w' :=
  ⟨h.chg.os, h.chg.tape, h.chg.output, h.chg.size, fun k hk => h.chg.block k hk (by simp)⟩
section
variable {H : Type}
theorem bulk_pos : ∀ d : DataW H, 1 ≤ Rows.uptoBulk d
  | .lit x => by cases x <;> simp [Rows.uptoBulk]
  | .nil => by simp [Rows.uptoBulk]
  | .ptr d => by simp [Rows.uptoBulk]
  | .slice a b => by simp [Rows.uptoBulk]
  | .agg a => by simp [Rows.uptoBulk]
  | .iface _ d => by simp [Rows.uptoBulk]
  | .map a => by simp [Rows.uptoBulk]
  | .held _ => by simp [Rows.uptoBulk]
theorem bulk_len : ∀ l : List (DataW H), l.length ≤ Rows.uptoBulkAll l
  | [] => by simp [Rows.uptoBulkAll]
  | d :: l => by
    have h1 := bulk_pos d
    have h2 := bulk_len l
    simp only [Rows.uptoBulkAll, List.length_cons]
    omega
theorem bulk_mem : ∀ {l : List (DataW H)} {d : DataW H}, d ∈ l → Rows.uptoBulk d ≤ Rows.uptoBulkAll l
  | x :: l, d, h => by
    simp only [Rows.uptoBulkAll]
    rcases List.mem_cons.1 h with rfl | h
    · omega
    · have := bulk_mem h; omega
end
theorem mapM_get {α β : Type} {f : α → Option β} : ∀ {l : List α} {r : List β}, l.mapM f = some r → r.length = l.length ∧ ∀ (i : Nat) (h : i < l.length), f l[i] = r[i]?
  | [], r, h => by
    simp at h
    subst h
    exact ⟨rfl, fun i h => by simp at h⟩
  | x :: l, r, h => by
    rw [List.mapM_cons] at h
    cases hx : f x with
    | none => rw [hx] at h; cases h
    | some y =>
      cases hl : l.mapM f with
      | none => rw [hx, hl] at h; cases h
      | some ys =>
        rw [hx, hl] at h
        obtain rfl : y :: ys = r := by simpa using h
        have hobt := mapM_get hl
        obtain ⟨h1, h2⟩ := hobt
        refine ⟨by simp [h1], fun i hi => ?_⟩
        cases i with
        | zero => simpa using hx
        | succ i => simpa using h2 i (by simpa using hi)
theorem At.cells {w : World} {base b off n : Nat} {cs : List Value} (h : w.cells? base ⟨b, off, none⟩ n = some cs) : cs.length = n ∧ At w b off cs := by
  unfold World.cells? at h
  split at h
  · have hobt := mapM_get h
    obtain ⟨h1, h2⟩ := hobt
    rw [List.length_range] at h1
    refine ⟨h1, fun j v hj => ?_⟩
    have hlt : j < n := by
      rw [← h1]
      exact (List.getElem?_eq_some_iff.1 hj).1
    have := h2 j (by simpa using hlt)
    rw [List.getElem_range, hj, add_off] at this
    exact this
  · cases h
section
variable {H : Type} {enc : TypeId × Value → H} {w : World} {spare : Nat → Bool} {held : Bool}
theorem trodAll_stays {P : Program} (hl : laidOutB P = true) {W W' : World} (hb : Below W.heap.size W W') : ∀ {ts : List TypeId} {vs : List Value} {ds : List (DataW H)} {p : List MemPlace},
    DataW.TrodAll enc P W 0 (fun _ => true) true ts vs ds p → (∀ x ∈ p, x.block < W.heap.size) → (∀ t ∈ ts, P.readableRec t = true ∧ t < P.types.size) → DataW.TrodAll enc P W' 0 (fun b => decide (b < W.heap.size)) true ts vs ds p
  | [], vs, ds, p, h, _, _ => by
    have hobt := trodAll_nil h
    obtain ⟨rfl, rfl, rfl⟩ := hobt
    exact trodAll_mk0
  | t :: ts, vs, ds, p, h, hlt, hr => by
    have hobt := trodAll_cons h
    obtain ⟨v, vs', d, ds', p', q, rfl, rfl, rfl, h0, h1⟩ := hobt
    exact trodAll_cons_mk (Below.trod hl (hr t (by simp)).1 (hr t (by simp)).2 h0 hb (fun x hx => hlt x (by simp [hx]))) (trodAll_stays hl hb h1 (fun x hx => hlt x (by simp [hx])) (fun t ht => hr t (by simp [ht])))
theorem open_i64 {v : Value} {d : DataW H} {ps : List MemPlace} {r : Reach} {b0 : Nat} {base : Nat} (hval : Value.okWide Try.prog w r b0 3 v) (h : DataW.Trod enc Try.prog w base spare held 3 v d ps) : ∃ n : Int, v = .int .i64 n ∧ -9223372036854775808 ≤ n ∧ n ≤ 9223372036854775807 := by
  have hobt := open_int Try.underlying3 hval h
  obtain ⟨n, rfl, _, _, hw⟩ := hobt
  simp only [Lit.wf, Bool.and_eq_true, decide_eq_true_eq] at hw
  have h0 : (IntKind.i64).min = -9223372036854775808 := by decide
  have h255 : (IntKind.i64).max = 9223372036854775807 := by decide
  rw [h0, h255] at hw
  exact ⟨n, rfl, hw.1, hw.2⟩
theorem open_b {v : Value} {d : DataW H} {ps : List MemPlace} {r : Reach} {b0 : Nat} {base : Nat} (hval : Value.okWide Try.prog w r b0 4 v) (h : DataW.Trod enc Try.prog w base spare held 4 v d ps) : ∃ b : Bool, v = .bool b := by
  have hobt := open_bool Try.underlying4 hval h
  obtain ⟨n, rfl, _⟩ := hobt
  exact ⟨n, rfl⟩
theorem At.join {w : World} {b : Nat} {vs : List Value} (off : Nat) (h : ∀ i v, vs[i]? = some v → w.cell? ⟨b, off + i, none⟩ = some v) : At w b off vs := h
/-- An argument of bytes, opened. -/
theorem open_bytes {v : Value} {d : DataW H} {ps : List MemPlace} {r : Reach} {b0 : Nat} (hval : Value.okWide Try.prog w r b0 22 v) (h : DataW.Trod enc Try.prog w 0 spare held 22 v d ps) : ∃ s : List UInt8, Sl w 1 v s.length (u8s s) ∧ Room v ∧ s.length ≤ 9223372036854775807 ∧ (Rows.uptoBulk d ≤ 1048576 → s.length ≤ 1048576) := by
  obtain ⟨fuel, h⟩ := h
  have hobt := okWide_slice Try.underlying22 hval
  obtain ⟨a0, len, cap, rfl⟩ := hobt
  have hc1 : Try.prog.cellsOf 5 = 1 := ty5.cellsOf
  rcases ChangeShapes.open_ints (k := .u8) Try.underlying22 Try.underlying5 hc1 h with ⟨hc, _⟩ | ⟨a, len', cap', zs, hc, _, hlc, hcm, hm, hx, hi, hwf⟩
  · have : Value.slice a0 len cap = .slice none 0 0 := by simpa [Value.cells] using hc
    cases this
    exact ⟨[], Sl.nil _ _ _, Nat.le_refl 0, by simp, fun _ => by simp⟩
  · have : Value.slice a0 len cap = .slice (some a) len' cap' := by simpa [Value.cells] using hc
    cases this
    have hspot : a.spot = none := by
      simp only [Value.okWide, Try.underlying22, Cell.okWide, Cell.ok] at hval
      exact hval.2.2.2.1
    obtain ⟨b, off, sp⟩ := a
    simp only at hspot
    subst hspot
    have hle : len ≤ zs.length := by rw [hm]; split <;> omega
    have hd : d = _ := congrArg Prod.fst hx
    have hmx : maxLen = 9223372036854775807 := by decide
    have hlen := bulk_len (H := H) (lits .u8 (zs.take len))
    have hll : (lits (H := H) .u8 (zs.take len)).length = len := by simp [lits]; omega
    have hval8 : ∀ n ∈ zs, ∃ c : UInt8, n = c.toNat := fun n hn => by
      have hw := hwf n hn
      simp only [Lit.wf, Bool.and_eq_true, decide_eq_true_eq] at hw
      have h0 : (IntKind.u8).min = 0 := by decide
      have h255 : (IntKind.u8).max = 255 := by decide
      rw [h0, h255] at hw
      refine ⟨UInt8.ofNat n.toNat, ?_⟩
      rw [UInt8.toNat_ofNat_of_lt' (show n.toNat < 256 by omega)]
      omega
    have hu : ((zs.take len).map fun n => Value.int .u8 n) = u8s ((zs.take len).map fun n => UInt8.ofNat n.toNat) := by
      unfold u8s
      rw [List.map_map]
      apply List.map_congr_left
      intro n hn
      have hobt := hval8 n (List.mem_of_mem_take hn)
      obtain ⟨c, rfl⟩ := hobt
      simp
    refine ⟨(zs.take len).map fun n => UInt8.ofNat n.toNat, ?_, hlc, by simp; omega, fun hb => by rw [hd] at hb; simp only [Rows.uptoBulk] at hb; simp; omega⟩
    have hl2 : ((zs.take len).map fun n => UInt8.ofNat n.toNat).length = len := by simp; omega
    rw [hl2]
    refine .mk (by simp [u8s]; omega) ?_
    rw [← hu]
    intro j v hj
    rw [List.getElem?_map] at hj
    cases hz : (zs.take len)[j]? with
    | none => rw [hz] at hj; cases hj
    | some n =>
      rw [hz] at hj
      obtain rfl : Value.int .u8 n = v := by simpa using hj
      have hjl : j < len := by
        have := (List.getElem?_eq_some_iff.1 hz).1
        simp at this
        omega
      have h2 := hi j (by omega)
      rw [add_off] at h2
      rw [h2]
      rw [List.getElem?_take, if_pos hjl] at hz
      simp [List.getD, hz]
end
end Go.Gx
/-! CasClash -/
namespace Go.Proofs.Ytakhjiecinpmiaa.casClash
open Go.ChangeShapes Go.WideShapes Go.ChangeAt Go.RowKit
set_option linter.unusedVariables false

theorem own : ownKnob Try.prog.godebug = none := by kernel_rfl
theorem laid : laidOutB Try.prog = true := by kernel_rfl

set_option maxRecDepth 100000 in
theorem lifted (os : Os) (started : os.Started) (H : Type) (enc : TypeId × Value → H) :
    ReturnsInHanded {} Try.checked os 3 .any (Rows.casClashSpec.pre6 enc Try.prog Try.f3 Rows.casClashRow.domain false) (Rows.casClashSpec.post enc Try.prog Try.f3 false true false false) := by
  refine returnsInHanded_of_change (C := Try.checked) own started (by kernel_rfl) Try.func3
    (ChangeSpec.witness6 (enc := enc) (C := Try.checked) false ⟨#[], #[.int .i64 0, .slice none 0 0, .slice none 0 0, .bool false], []⟩ 12 (by kernel_rfl) (by kernel_rfl) (by kernel_rfl) (by kernel_rfl)) ?_
  intro W base args ds gs before hval0 hW hcnd _
  have hval : ∀ (j : Nat) t v, Try.f3.params[j]? = some t → args[j]? = some v → Value.okWide Try.prog W .any base t v := hval0
  have hW' := hW
  obtain ⟨p, q, hA0, hV, rfl, hfz, hnd⟩ := hW
  have hA : DataW.TrodAll enc Try.prog W 0 (fun _ => true) true Try.f3.params.toList args.toList ds p := hA0
  rw [Try.params3] at hA hval
  obtain ⟨rfl, rfl⟩ := trodVars_none hV
  obtain ⟨vs, hargs, hA⟩ : ∃ vs, args = vs.toArray ∧ DataW.TrodAll enc Try.prog W 0 (fun _ => true) true [3, 22, 22, 4] vs ds p := ⟨args.toList, rfl, hA⟩
  obtain rfl := hargs
  have hA1 := hA
  obtain ⟨v0, vs0, d0, ds0, p0, q0, rfl, rfl, rfl, h0, hA⟩ := trodAll_cons hA
  obtain ⟨v1, vs1, d1, ds1, p1, q1, rfl, rfl, rfl, h1, hA⟩ := trodAll_cons hA
  obtain ⟨v2, vs2, d2, ds2, p2, q2, rfl, rfl, rfl, h2, hA⟩ := trodAll_cons hA
  obtain ⟨v3, vs3, d3, ds3, p3, q3, rfl, rfl, rfl, h3, hA⟩ := trodAll_cons hA
  obtain ⟨rfl, rfl, rfl⟩ := trodAll_nil hA
  clear hA hval0
  simp only [List.append_nil] at hW' hA1 hfz hnd
  obtain ⟨n0, hv0, hn0⟩ := Go.Gx.open_i64 (hval 0 3 v0 rfl rfl) h0
  obtain ⟨s1, he1, hr1, hm1, hn1⟩ := Go.Gx.open_bytes (hval 1 22 v1 rfl rfl) h1
  obtain ⟨s2, he2, hr2, hm2, hn2⟩ := Go.Gx.open_bytes (hval 2 22 v2 rfl rfl) h2
  obtain ⟨n3, hv3⟩ := Go.Gx.open_b (hval 3 4 v3 rfl rfl) h3
  subst hv0
  subst hv3
  refine (Go.Gx.clash_spec hn0 W he1 hr1 he2 hr2 hm1 hm2).mono fun e W' ⟨he, hg⟩ => ?_
  subst he
  have hb := hg.below
  have hlt := fun x hx => hW'.lt x hx
  have hst := Go.Gx.trodAll_stays laid hb hA1 (by simpa using hlt) (by intro t ht; simp only [List.mem_cons, List.not_mem_nil, or_false] at ht; rcases ht with rfl | rfl | rfl | rfl <;> exact ⟨by kernel_rfl, of_decide_eq_true (by kernel_rfl)⟩)
  refine ⟨_, rfl, [d0, d1, d2, d3], [], _, [], _, [], hW', trodAll_cons_mk (shut_bool Try.underlying4 _) trodAll_mk0, hst, rfl, hb.frame _, fun h => by cases h⟩

theorem over : Rows.casClashRow.holds Try.pinned (OpenSpec.ofChange Rows.casClashSpec) :=
  OpenClaim.holds_of_wide 3 Try.f3 rfl rfl rfl rfl rfl rfl rfl ⟨rfl, rfl, rfl, rfl, rfl⟩ rfl rfl rfl rfl rfl (by kernel_rfl) Try.func3 (by kernel_rfl)
    (of_decide_eq_true (by kernel_rfl)) (by unfold Func.isWrapper; first | (rw [if_pos (by decide +kernel)]; kernel_rfl) | (rw [if_neg (by decide +kernel)]; exact ⟨rfl, rfl⟩))
    (fun os started H enc _ => lifted os started H enc)

/-- The statement. -/
theorem proved : Rows.CasClashSaid :=
  over
#print axioms proved
end Go.Proofs.Ytakhjiecinpmiaa.casClash
