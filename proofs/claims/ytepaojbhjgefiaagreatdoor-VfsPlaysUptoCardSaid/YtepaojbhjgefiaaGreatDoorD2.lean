/- Bytes lent, with marks behind them; are they kept? Walked. Items lent, with marks behind them: walked. Items that were lent: are they kept? Then written over: walked. The document's files, made: walked. The document's New, walked. Fresh files: their items are the list's. No program in sight. The document's SameItems, and places, where both are alike. VfsNew, walked. -/
import Derived.Test.YtepaojbhjgefiaaGreatDoorC6
import Derived.Test.YtepaojbhjgefiaaGreatDoorC1
import Derived.Test.YtepaojbhjgefiaaGreatDoorC7
import Derived.Test.YtepaojbhjgefiaaGreatDoorD1
import Derived.Test.YtepaojbhjgefiaaGreatDoorC9
import Derived.Test.YtepaojbhjgefiaaGreatDoorC8
set_option linter.unusedVariables false
set_option linter.unusedSimpArgs false
/-! Vn3 -/
namespace Go.Gx
open Go.Proofs Go.Proofs.Tryz Go.RowKit
set_option maxRecDepth 100000
def pad9 (n : Nat) : List Value := List.replicate n (.int .u8 201)
theorem pad9_get {n i : Nat} (h : i < n) : (pad9 n)[i]? = some (.int .u8 201) := by simp [pad9, h]
def LendV (s : List UInt8) : Obj := blk 5 (u8s s ++ pad9 5)
theorem lendBytes_spec {v : Value} {s : List UInt8} (w0 : World) (hl : Sl w0 1 v s.length (u8s s)) (hb : s.length ≤ 4398046511104) : Calls Tryz.prog 31 #[v] w0 fun e w' => ∃ b, e = .returned (.slice (some ⟨b, 0, none⟩) s.length (s.length + 5)) ∧ Step [] [(b, LendV s)] w0 w' := by
 have hs : Step [] [] w0 w0 := Step.refl w0
 have hobt := hl.form
 obtain ⟨a, c, rfl⟩ := hobt
 refine calls (n := 27) Tryz.func31 rfl rfl rfl ?_
 refine cQ <| cR <| wa rfl <| wZ <| cQ <| cR <| wm rfl <| wV rfl (run_lenSl underlying38 rfl) <| wV rfl (run_add (c := ((s.length + 5 : Nat) : Int)) rfl rfl (by omega) (by omega)) ?_
 refine WL.makeSlice (k := s.length + 5) underlying38 ty5 rfl (by omega) (by omega) rfl rfl rfl hs (fun b8 w hs => ?_)
 refine wa rfl <| wZ ?_
 have hz : ((List.replicate (s.length + 5) [Value.int .u8 0]).flatten).length = s.length + 5 := by simp
 generalize (List.replicate (s.length + 5) [Value.int .u8 0]).flatten = zs at hs hz
 refine cQ <| cR <| wm rfl <| wm rfl ?_
 refine WL.copy underlying38 ty5 rfl rfl (hs) (hl.step0 hs) (Cells1.u8s s) (by first | omega | exact Nat.le_of_ble_eq_true rfl | (simp [Ent.cells, u8s]; done)) (fun k hk => by cases hk; rfl) (fun w hs => ⟨fun k hk => ?_, fun h => by cases h⟩)
 cases hk
 refine wZ ?_
 rw [Nat.min_eq_left (by omega), Nat.mul_one, ← u8s_len s, List.take_length] at hs
 have hs0 : Step [] [(b8, blk 5 (u8s s ++ pad9 0 ++ zs.drop s.length))] w0 w := by
  have : splice zs 0 (u8s s) = u8s s ++ pad9 0 ++ zs.drop s.length := by simp [splice, pad9, u8s]
  rw [← this]; exact hs
 refine cQ <| cQ <| cR <| wm rfl <| wV rfl (run_lenSl underlying38 rfl) <| wa rfl <| wZ <| CW.block ?_
 refine CW.loop (fun m f w' => ∃ j more, j ≤ 5 ∧ m = 5 - j ∧ Step [] [(b8, blk 5 (u8s s ++ pad9 j ++ more))] w0 w' ∧ more.length = 5 - j ∧ Holds f [(0, .slice a s.length c), (3, .slice (some ⟨b8, 0, none⟩) (s.length + 5) (s.length + 5)), (4, .int .i64 (s.length + j : Nat))]) (m := 5) ?_ ?_
 ·exact ⟨0, _, by omega, rfl, hs0, by simp [hz], rfl, rfl, rfl, trivial⟩
 ·rintro m f w ⟨j, more, hj, rfl, hs, hm, hf⟩
  have hobt := hf.chain
  obtain ⟨g, rfl⟩ := hobt
  refine cQ <| cQ <| cR <| wm rfl <| wm rfl <| wV rfl (run_lenSl underlying38 rfl) <| wV rfl (run_lss rfl rfl) <| wZ ?_
  refine cP rfl (fun h => ?_) (fun h => ?_)
  ·have hlt : j < 5 := by omega
   have hlen : (u8s s ++ pad9 j).length = s.length + j := by simp [u8s, pad9]
   have hlen2 : (u8s s ++ pad9 j ++ more).length = s.length + 5 := by rw [List.length_append, hlen, hm]; omega
   repeat (first | refine cQ ?_ | refine CW.block ?_ | refine cK ?_)
   refine cR <| wm rfl <| wm rfl <| wV rfl (run_ixSlN underlying38 ty5 rfl rfl (by omega)) ?_
   refine WL.store1 ty5 rfl rfl (rfl) hs (by first | (simp; done) | omega | (simp only [List.length_append, List.length_replicate, List.length_cons, List.length_nil, List.length_set]; omega) | (simp [Ent.cells, u8s]; done) | exact Nat.le_of_ble_eq_true rfl) (fun w hs => ?_)
   refine wZ <| cR <| wm rfl <| wV rfl (run_add (c := ((s.length + (j + 1) : Nat) : Int)) rfl rfl (by omega) (by omega)) <| wa rfl <| wZ ?_
   refine (show _ ∧ _ from ⟨rfl, _, ?_, j + 1, more.drop 1, by omega, rfl, ?_, ?_, rfl, rfl, rfl, trivial⟩)
   ·omega
   ·match more, hm with
    | [], hm => simp at hm; omega
    | x :: more, hm =>
     have e : (u8s s ++ pad9 j ++ x :: more).set (0 + (s.length + j) * 1) (Value.int .u8 201) = u8s s ++ pad9 (j + 1) ++ more := by
      rw [Nat.zero_add, Nat.mul_one, ← hlen, List.set_append_right _ _ (Nat.le_refl _), Nat.sub_self]
      simp [pad9, List.replicate_succ', List.append_assoc]
     exact hs.cast e
   ·simp [hm]; omega
  ·obtain rfl : j = 5 := by omega
   obtain rfl : more = [] := List.eq_nil_of_length_eq_zero (by omega)
   repeat (first | refine cQ ?_ | refine CW.exit ?_)
   refine cR <| wm rfl <| wm rfl <| wV rfl (run_lenSl underlying38 rfl) <| wV rfl (run_sliceSl0 (hi := s.length) (m := s.length + 5) underlying38 ty5 rfl rfl rfl (by simp) (by omega) (by omega)) <| wa rfl <| wZ ?_
   refine CW.ret ?_
   refine fin_ret1 rfl ?_
   rw [List.append_nil] at hs
   exact ⟨b8, rfl, hs⟩
theorem lentV {w : World} {b c : Nat} {s : List UInt8} (h : w.heap[b]? = some (LendV s)) : Sl w 1 (.slice (some ⟨b, 0, none⟩) s.length c) s.length (u8s s) :=
 .mk (by simp [u8s]) (At.of_blk (T := 5) h).left
theorem keptBytes_spec {u : Value} {s : List UInt8} {b : Nat} (w0 : World) (hl : Sl w0 1 u s.length (u8s s)) (hbd : s.length ≤ 4398046511104) (hb : w0.heap[b]? = some (LendV s)) :
  Calls Tryz.prog 33 #[.slice (some ⟨b, 0, none⟩) s.length (s.length + 5), u] w0 (Ret0 (.bool true) w0) := by
 have hs : Step [] [] w0 w0 := Step.refl w0
 have hobt := hl.form
 obtain ⟨au, cu, rfl⟩ := hobt
 have hlen : (u8s s ++ pad9 5).length = s.length + 5 := by simp [u8s, pad9]
 have hbw : ∀ {L : List (Nat × Obj)} {w : World}, Step [] L w0 w → w.heap[b]? = some (LendV s) := fun hs => hs.old hb (by simp)
 refine calls (n := 30) Tryz.func33 rfl rfl rfl ?_
 refine cQ <| cR <| wa rfl <| wZ <| cQ <| cQ <| cR <| wm rfl <| wV rfl (run_toString underlying38 underlying9 underlying5 rfl (lentV (hbw hs))) <| wm rfl <| wV rfl (run_toString underlying38 underlying9 underlying5 rfl (hl.step0 hs)) <| wV rfl (run_bF (run_strNe rfl rfl) (by exact fun h => h rfl)) <| wZ ?_
 refine cC rfl (fun h => ?_) (fun h => ?_)
 ·cases h
 repeat (first | refine cQ ?_ | refine cK ?_)
 refine cR <| wm rfl <| wm rfl <| wV rfl (run_lenSl underlying38 rfl) <| wV rfl (run_add (c := ((s.length + 5 : Nat) : Int)) rfl rfl (by omega) (by omega)) <| wV rfl (run_sliceSl0 (hi := s.length + 5) (m := s.length + 5) underlying38 ty5 rfl rfl rfl (by simp) (by omega) (by omega)) <| wa rfl <| wZ <| cQ <| cQ <| cR <| wm rfl <| wV rfl (run_lenSl underlying38 rfl) <| wa rfl <| wZ <| CW.block ?_
 refine CW.loop (fun m f w' => ∃ i, i ≤ 5 ∧ m = 5 - i ∧ Step [] [] w0 w' ∧ Holds f [(5, .slice (some ⟨b, 0, none⟩) (s.length + 5) (s.length + 5)), (6, .int .i64 (s.length + i : Nat))]) (m := 5) ?_ ?_
 ·exact ⟨0, by omega, by omega, hs, rfl, rfl, trivial⟩
 clear hs
 rintro m f w ⟨i, hi, rfl, hs, hf⟩
 have hobt := hf.chain
 obtain ⟨g, rfl⟩ := hobt
 by_cases hlt : i < 5
 ·have hx : (u8s s ++ pad9 5)[0 + (s.length + i) * 1]? = some (.int .u8 201) := by
   rw [List.getElem?_append_right (by rw [u8s_len]; omega)]
   exact pad9_get (by rw [u8s_len]; omega)
  refine cQ <| cQ <| cR <| wm rfl <| wm rfl <| wV rfl (run_lenSl underlying38 rfl) <| wV rfl (run_bT (run_lss rfl rfl) (by omega)) <| wZ ?_
  refine cC rfl (fun h => ?_) (fun h => ?_)
  ·repeat (first | refine cQ ?_ | refine CW.block ?_ | refine cK ?_)
   refine cR <| wm rfl <| wm rfl <| wV rfl (run_ixSlN underlying38 ty5 rfl rfl (by omega)) <| wV rfl (run_load1 ty5 rfl ((by rw [cell_blk (hbw hs)]; exact hx))) <| wV rfl (run_bF (run_neq rfl rfl) (by exact fun h => h rfl)) <| wZ ?_
   refine cC rfl (fun h => ?_) (fun h => ?_)
   ·cases h
   refine cK <| cR <| wm rfl <| wV rfl (run_add (c := ((s.length + (i + 1) : Nat) : Int)) rfl rfl (by omega) (by omega)) <| wa rfl <| wZ ?_
   refine (show _ ∧ _ from ⟨rfl, _, ?_, i + 1, by omega, rfl, hs, rfl, rfl, trivial⟩)
   omega
  ·cases h
 ·obtain rfl : i = 5 := by omega
  refine cQ <| cQ <| cR <| wm rfl <| wm rfl <| wV rfl (run_lenSl underlying38 rfl) <| wV rfl (run_bF (run_lss rfl rfl) (by omega)) <| wZ ?_
  refine cC rfl (fun h => ?_) (fun h => ?_)
  ·cases h
  repeat (first | refine cQ ?_ | refine CW.exit ?_)
  refine cR <| wa rfl <| wZ ?_
  refine CW.ret ?_
  refine fin_ret1 rfl ?_
  exact ⟨rfl, hs⟩
end Go.Gx
/-! Vn4 -/
namespace Go.Gx
open Go.Proofs Go.Proofs.Tryz Go.RowKit
set_option maxRecDepth 100000
/-- An item that was lent: what it is, where its bytes lie. -/
structure LIt where
 it : It
 b : Nat
def LIt.v (r : LIt) : Value := .slice (some ⟨r.b, 0, none⟩) r.it.x.length (r.it.x.length + 5)
def LIt.enc (r : LIt) : List Value := itC r.it.p r.it.d r.v
def encL (rs : List LIt) : List Value := rs.flatMap LIt.enc
def dataL (rs : List LIt) : List (Nat × Obj) := rs.map fun r => (r.b, LendV r.it.x)
def markI : List Value := itC [109, 97, 114, 107] false (.slice none 0 0)
def mksI (n : Nat) : List Value := (List.replicate n markI).flatten
theorem encL_len (rs : List LIt) : (encL rs).length = rs.length * 3 := by
 induction rs with
 | nil => rfl
 | cons r rs ih =>
  rw [encL] at ih
  rw [encL, List.flatMap_cons, List.length_append, ih, List.length_cons, Nat.add_mul]
  show 3 + _ = _
  omega
theorem mksI_len (n : Nat) : (mksI n).length = n * 3 := by
 induction n with
 | zero => rfl
 | succ n ih =>
  rw [mksI] at ih
  rw [mksI, List.replicate_succ, List.flatten_cons, List.length_append, ih, Nat.add_mul]
  show 3 + _ = _
  omega
theorem mksI_succ (n : Nat) : mksI (n + 1) = mksI n ++ markI := by
 rw [mksI, mksI, List.replicate_succ', List.flatten_append]
 simp
theorem encL_app (rs : List LIt) (r : LIt) : encL (rs ++ [r]) = encL rs ++ r.enc := by simp [encL]
theorem dataL_app (rs : List LIt) (r : LIt) : dataL (rs ++ [r]) = dataL rs ++ [(r.b, LendV r.it.x)] := by simp [dataL]
theorem lend_cells {E Z : List Value} {i : Nat} {p d v u : Value} (hE : E.length = i * 3) (hZ : 3 ≤ Z.length) : (splice (E ++ Z) (0 + i * 3) [p, d, v]).set (0 + i * 3 + 2) u = E ++ [p, d, u] ++ Z.drop 3 := by
 match Z, hZ with
 | z0 :: z1 :: z2 :: Z, _ =>
  have e : E ++ (z0 :: z1 :: z2 :: Z) = E ++ [z0, z1, z2] ++ Z := by simp
  rw [e, splice_mid (A := E) (M := [z0, z1, z2]) (R := Z) (vs := [p, d, v]) (by omega) rfl, List.set_append_left _ _ (by simp [hE]), List.set_append_right _ _ (by omega), hE, show 0 + i * 3 + 2 - i * 3 = 2 by omega]
  rfl
theorem splice_lenI (a vs : List Value) (off : Nat) (h : off + vs.length ≤ a.length) : (splice a off vs).length = a.length := by
 simp only [splice, List.length_append, List.length_take, List.length_drop]
 omega
theorem bld_mark (s : List UInt8) (w : World) : (Instr.build 56 #[(0, str s)]).run Tryz.prog w = .ok (.agg (itC s false (.slice none 0 0)).toArray) w := by kernel_rfl
theorem perm_n1 {α : Type} {x y : α} {l : List α} : (x :: y :: l).Perm (y :: (l ++ [x])) := by
 classical
 exact List.perm_iff_count.2 fun z => by
  simp only [List.count_append, List.count_cons, List.count_nil]
  omega
theorem take_it {l : List It} {i : Nat} {x : It} {rs : List LIt} {b : Nat} (h : rs.map (·.it) = l.take i) (hx : l[i]? = some x) : (rs ++ [(⟨x, b⟩ : LIt)]).map (·.it) = l.take (i + 1) := by
 have hobt := List.getElem?_eq_some_iff.1 hx
 obtain ⟨h1, h2⟩ := hobt
 rw [List.map_append, h, ← List.take_append_getElem h1, h2]
 rfl
set_option maxHeartbeats 4000000 in
theorem lendI_spec {v : Value} {l : List It} (w0 : World) (hl : Its w0 v l) (hn : l.length ≤ 1048576) (hx : ∀ x ∈ l, x.x.length ≤ 1048576) : Calls Tryz.prog 17 #[v] w0 fun e w' => ∃ b rs, rs.map (·.it) = l ∧ e = .returned (.slice (some ⟨b, 0, none⟩) l.length (l.length + 3)) ∧ Step [] ((b, blk 56 (encL rs ++ mksI 3)) :: dataL rs) w0 w' := by
 have hs : Step [] [] w0 w0 := Step.refl w0
 have hobt := hl.sl.form
 obtain ⟨av, cv, rfl⟩ := hobt
 refine calls (n := 49) Tryz.func17 rfl rfl rfl ?_
 refine cQ <| cR <| wa rfl <| wZ <| cQ <| cR <| wm rfl <| wV rfl (run_lenSl underlying22 rfl) <| wV rfl (run_add (c := ((l.length + 3 : Nat) : Int)) rfl rfl (by omega) (by omega)) ?_
 refine WL.makeSlice (k := l.length + 3) underlying22 ty56 rfl (by omega) (by omega) rfl rfl rfl hs (fun b9 w hs => ?_)
 refine wa rfl <| wZ ?_
 have hz : ((List.replicate (l.length + 3) [str [], .bool false, .slice none 0 0]).flatten).length = (l.length + 3) * 3 := by simp
 have hobt : ∃ zs, (List.replicate (l.length + 3) [str [], .bool false, .slice none 0 0]).flatten = zs := ⟨_, rfl⟩
 obtain ⟨zs, hzs⟩ := hobt
 replace hs : Step [] [(b9, blk 56 zs)] w0 w := by rw [← hzs]; exact hs
 rw [hzs] at hz
 refine CW.seqM (fun f w => ∃ rs Z, rs.map (·.it) = l ∧ Z.length = 3 * 3 ∧ Step [] ((b9, blk 56 (encL rs ++ Z)) :: dataL rs) w0 w ∧ Holds f [(0, .slice av l.length cv), (3, .slice (some ⟨b9, 0, none⟩) (l.length + 3) (l.length + 3))]) ?_ ?_
 ·refine cQ <| cR <| wa rfl <| wZ <| CW.block ?_
  refine CW.loop (fun m f w' => ∃ i rs Z, i ≤ l.length ∧ m = l.length - i ∧ rs.map (·.it) = l.take i ∧ Z.length = (l.length + 3 - i) * 3 ∧ Step [] ((b9, blk 56 (encL rs ++ Z)) :: dataL rs) w0 w' ∧ Holds f [(0, .slice av l.length cv), (3, .slice (some ⟨b9, 0, none⟩) (l.length + 3) (l.length + 3)), (4, .int .i64 (i : Nat))]) (m := l.length) ?_ ?_
  ·exact ⟨0, [], zs, by omega, rfl, rfl, by omega, hs, rfl, rfl, rfl, trivial⟩
  clear hs
  rintro m f w ⟨i, rs, Z, hi, rfl, hrs, hZ, hs, hf⟩
  have hrl : rs.length = i := by
   have := congrArg List.length hrs
   rw [List.length_map, List.length_take] at this
   omega
  have hel := encL_len rs
  by_cases hlt : i < l.length
  ·have hobt : ∃ x, l[i]? = some x := ⟨_, List.getElem?_eq_getElem hlt⟩
   obtain ⟨x, hxi⟩ := hobt
   have hxm := List.mem_of_getElem? hxi
   have hxo := hl.ok x hxm
   have hxl := hx x hxm
   have hobt := hl.at hxi
   obtain ⟨bl, ol, cl, hc0, hat⟩ := hobt
   injection hc0 with hc0 hc1 hc2
   have e1' := congrArg (fun a => Value.slice a l.length cv) hc0
   rw [show Value.slice av l.length cv = Value.slice (some ⟨bl, ol, none⟩) l.length cv from e1'] at hf
   have hlen1 : (encL rs ++ Z).length = (l.length + 3) * 3 := by rw [List.length_append, hel, hZ, hrl]; omega
   have hlen2 : (splice (encL rs ++ Z) (0 + i * 3) (itC x.p x.d x.v)).length = (l.length + 3) * 3 := by
    rw [splice_lenI _ _ _ (by rw [hlen1]; show 0 + i * 3 + 3 ≤ _; omega), hlen1]
   have hset := fun u : Value => lend_cells (E := encL rs) (Z := Z) (i := i) (p := str x.p) (d := .bool x.d) (v := x.v) (u := u) (by rw [hel, hrl]) (by omega)
   have hobt := hf.chain
   obtain ⟨g, rfl⟩ := hobt
   refine cQ <| cQ <| cR <| wm rfl <| wm rfl <| wV rfl (run_lenSl underlying22 rfl) <| wV rfl (run_bT (run_lss rfl rfl) (by omega)) <| wZ ?_
   refine cC rfl (fun h => ?_) (fun h => ?_)
   ·repeat (first | refine cQ ?_ | refine CW.block ?_ | refine cK ?_)
    refine cR <| wm rfl <| wm rfl <| wm rfl <| wm rfl <| wV rfl (run_ixSlN underlying22 ty56 rfl rfl (by omega)) <| wV rfl (run_loadN ty56 rfl rfl (hat.step hs (by simp))) <| wV rfl (run_ixSlN underlying22 ty56 rfl rfl (by omega)) ?_
    refine WL.storeN ty56 rfl rfl (rfl) (It.cells1 hxo) (hs) (by first | (simp; done) | omega | (simp only [List.length_append, List.length_replicate, List.length_cons, List.length_nil, List.length_set]; omega) | (simp [Ent.cells, u8s]; done) | exact Nat.le_of_ble_eq_true rfl) (fun w hs => ?_)
    refine wZ <| cR <| wm rfl <| wm rfl <| wm rfl <| wm rfl <| wV rfl (run_ixSlN underlying22 ty56 rfl rfl (by omega)) <| wV rfl (run_field (o' := 2) underlying56 rfl ty38 rfl rfl rfl) <| wV rfl (run_load1 ty38 rfl (((hat.step hs (by simp)).cell (j := 2) rfl))) ?_
    refine wE rfl (run_call en31 rfl rfl) (lendBytes_spec _ (hxo.hb.step0 hs.clear) (by omega)) ?_
    rintro e w ⟨bd, rfl, hq⟩
    refine ⟨_, rfl, ?_⟩
    replace hs := hs.call0 hq
    refine wV rfl (run_ixSlN underlying22 ty56 rfl rfl (by omega)) <| wV rfl (run_field (o' := 2) underlying56 rfl ty38 rfl rfl rfl) ?_
    refine WL.store1_1 ty38 rfl rfl (rfl) hs (by first | (simp; done) | omega | (simp only [List.length_append, List.length_replicate, List.length_cons, List.length_nil, List.length_set]; omega) | (simp [Ent.cells, u8s]; done) | exact Nat.le_of_ble_eq_true rfl) (fun w hs => ?_)
    refine wZ ?_
    replace hs : Step [] ((b9, blk 56 (encL (rs ++ [⟨x, bd⟩]) ++ Z.drop 3)) :: dataL (rs ++ [⟨x, bd⟩])) w0 w := by
     rw [encL_app, dataL_app]
     have h2 := hset (LIt.v ⟨x, bd⟩)
     have h3 := hs.perm perm_n1
     have h4 : Step [] ((b9, blk 56 ((splice (encL rs ++ Z) (0 + i * 3) [str x.p, .bool x.d, x.v]).set (0 + i * 3 + 2) (LIt.v ⟨x, bd⟩))) :: (dataL rs ++ [(bd, LendV x.x)])) w0 w := h3
     rw [h2] at h4
     exact h4
    refine cR <| wm rfl <| wV rfl (run_add (c := ((i + 1 : Nat) : Int)) rfl rfl (by omega) (by omega)) <| wa rfl <| wZ ?_
    refine (show _ ∧ _ from ⟨rfl, _, ?_, i + 1, rs ++ [⟨x, bd⟩], Z.drop 3, by omega, rfl, take_it hrs hxi, (by rw [List.length_drop, hZ]; omega), hs, e1'.symm, rfl, rfl, trivial⟩)
    omega
   ·cases h
  ·have hobt := hf.chain
   obtain ⟨g, rfl⟩ := hobt
   refine cQ <| cQ <| cR <| wm rfl <| wm rfl <| wV rfl (run_lenSl underlying22 rfl) <| wV rfl (run_bF (run_lss rfl rfl) (by omega)) <| wZ ?_
   refine cC rfl (fun h => ?_) (fun h => ?_)
   ·cases h
   refine CW.exit ?_
   refine ⟨rfl, rs, Z, ?_, by rw [hZ]; omega, hs, rfl, rfl, trivial⟩
   rw [hrs, List.take_of_length_le (by omega)]
 clear hs
 rintro f w ⟨rs, Z, hrs, hZ, hs, hf⟩
 have hobt := hf.chain
 obtain ⟨g, rfl⟩ := hobt
 have hrl : rs.length = l.length := by rw [← hrs, List.length_map]
 have hel := encL_len rs
 refine cQ <| cQ <| cR <| wm rfl <| wV rfl (run_lenSl underlying22 rfl) <| wa rfl <| wZ <| CW.block ?_
 refine CW.loop (fun m f w' => ∃ j Z, j ≤ 3 ∧ m = 3 - j ∧ Z.length = (3 - j) * 3 ∧ Step [] ((b9, blk 56 ((encL rs ++ mksI j) ++ Z)) :: dataL rs) w0 w' ∧ Holds f [(0, .slice av l.length cv), (3, .slice (some ⟨b9, 0, none⟩) (l.length + 3) (l.length + 3)), (5, .int .i64 (l.length + j : Nat))]) (m := 3) ?_ ?_
 ·exact ⟨0, Z, by omega, rfl, by omega, by simpa [mksI] using hs, rfl, rfl, rfl, trivial⟩
 clear hs hZ
 rintro m f w ⟨j, Z, hj, rfl, hZ, hs, hf⟩
 have hobt := hf.chain
 obtain ⟨g, rfl⟩ := hobt
 have hml := mksI_len j
 have hEl : (encL rs ++ mksI j).length = (l.length + j) * 3 := by rw [List.length_append, hel, hml, hrl]; omega
 have hlen1 : ((encL rs ++ mksI j) ++ Z).length = (l.length + 3) * 3 := by rw [List.length_append, hEl, hZ]; omega
 by_cases hlt : j < 3
 ·have e := splice_end (encL rs ++ mksI j) Z markI (by rw [hZ]; show 3 ≤ _; omega)
  rw [hEl, List.append_assoc (encL rs) (mksI j) markI, ← mksI_succ] at e
  refine cQ <| cQ <| cR <| wm rfl <| wm rfl <| wV rfl (run_lenSl underlying22 rfl) <| wV rfl (run_bT (run_lss rfl rfl) (by omega)) <| wZ ?_
  refine cC rfl (fun h => ?_) (fun h => ?_)
  ·repeat (first | refine cQ ?_ | refine CW.block ?_ | refine cK ?_)
   refine cR <| wm rfl <| wm rfl <| wV rfl (run_build rfl (bld_mark _ _)) <| wV rfl (run_ixSlN underlying22 ty56 rfl rfl (by omega)) ?_
   refine WL.storeN ty56 rfl rfl (rfl) (Cells1.of_all rfl) (hs) (by first | (simp; done) | omega | (simp only [List.length_append, List.length_replicate, List.length_cons, List.length_nil, List.length_set]; omega) | (simp [Ent.cells, u8s]; done) | exact Nat.le_of_ble_eq_true rfl) (fun w hs => ?_)
   refine wZ ?_
   replace hs : Step [] ((b9, blk 56 ((encL rs ++ mksI (j + 1)) ++ Z.drop 3)) :: dataL rs) w0 w := by
    have h4 : Step [] ((b9, blk 56 (splice ((encL rs ++ mksI j) ++ Z) (0 + (l.length + j) * 3) markI)) :: dataL rs) w0 w := hs
    rw [Nat.zero_add, e] at h4
    exact h4
   refine cR <| wm rfl <| wV rfl (run_add (c := ((l.length + (j + 1) : Nat) : Int)) rfl rfl (by omega) (by omega)) <| wa rfl <| wZ ?_
   refine (show _ ∧ _ from ⟨rfl, _, ?_, j + 1, Z.drop 3, by omega, rfl, (by rw [List.length_drop, hZ]; omega), hs, rfl, rfl, rfl, trivial⟩)
   omega
  ·cases h
 ·obtain rfl : j = 3 := by omega
  obtain rfl : Z = [] := List.eq_nil_of_length_eq_zero (by rw [hZ])
  rw [List.append_nil] at hs
  refine cQ <| cQ <| cR <| wm rfl <| wm rfl <| wV rfl (run_lenSl underlying22 rfl) <| wV rfl (run_bF (run_lss rfl rfl) (by omega)) <| wZ ?_
  refine cC rfl (fun h => ?_) (fun h => ?_)
  ·cases h
  repeat (first | refine cQ ?_ | refine CW.exit ?_)
  refine cR <| wm rfl <| wm rfl <| wV rfl (run_lenSl underlying22 rfl) <| wV rfl (run_sliceSl0 (hi := l.length) (m := l.length + 3) underlying22 ty56 rfl rfl rfl (by simp) (by omega) (by omega)) <| wa rfl <| wZ ?_
  refine CW.ret ?_
  refine fin_ret1 rfl ?_
  exact ⟨b9, rs, hrs, rfl, hs⟩
end Go.Gx
/-! Vn5 -/
namespace Go.Gx
open Go.Proofs Go.Proofs.Tryz Go.RowKit
set_option maxRecDepth 100000
section
variable {P : Program} {f : Slots} {w : World} {d : Option Tmp} {ty : TypeId} {pos : String} {af : Array Edge} {x y : Operand} {T T' : TypeId}
theorem run_inc8 {a : Nat} (hx : ev f x = .int .u8 (a : Nat)) (hy : ev f y = .int .u8 1) : (execOp (ev f) ⟨d, .binOp .add T x y T', ty, pos, af, none⟩).run P w = .ok (.value (.int .u8 (UInt8.ofNat (a + 1)).toNat)) w := by
 rw [run_addW hx hy]
 congr 3
end
theorem encL_get {rs : List LIt} {i : Nat} {r : LIt} (h : rs[i]? = some r) (X : List Value) (j : Nat) (hj : j < 3) : (encL rs ++ X)[0 + i * 3 + j]? = r.enc[j]? := by
 induction rs generalizing i with
 | nil => simp at h
 | cons a rs ih =>
  have ha : (LIt.enc a).length = 3 := rfl
  cases i with
  | zero =>
   have : a = r := by simpa using h
   subst this
   rw [encL, List.flatMap_cons, List.append_assoc, List.getElem?_append_left (by omega)]
   congr 1
   omega
  | succ i =>
   have h2 := ih (i := i) (by simpa using h)
   rw [encL] at h2
   rw [encL, List.flatMap_cons, List.append_assoc, List.getElem?_append_right (by omega), ha, ← h2]
   congr 1
   omega
theorem mksI_get {rs : List LIt} {n j : Nat} (hn : rs.length = n) (hj : j < 3) : (encL rs ++ mksI 3)[0 + (n + j) * 3]? = some (str [109, 97, 114, 107]) := by
 have h1 := encL_len rs
 rw [List.getElem?_append_right (by rw [h1, hn]; omega), h1, hn, show 0 + (n + j) * 3 - n * 3 = j * 3 by omega]
 match j, hj with
 | 0, _ => rfl
 | 1, _ => rfl
 | 2, _ => rfl
theorem it_get {l : List It} {rs : List LIt} (hrs : rs.map (·.it) = l) {i : Nat} {x : It} (h : l[i]? = some x) : ∃ b, rs[i]? = some ⟨x, b⟩ := by
 rw [← hrs, List.getElem?_map] at h
 cases hr : rs[i]? with
 | none => rw [hr] at h; cases h
 | some r =>
  rw [hr] at h
  have : r.it = x := by simpa using h
  exact ⟨r.b, by rw [← this]⟩
theorem data_mem {rs : List LIt} {i : Nat} {r : LIt} (h : rs[i]? = some r) : (r.b, LendV r.it.x) ∈ dataL rs := List.mem_map.2 ⟨r, List.mem_of_getElem? h, rfl⟩
set_option maxHeartbeats 8000000 in
theorem keptI_spec {u : Value} {l : List It} {rs : List LIt} {b : Nat} {S : List Nat} (w0 : World) (hrs : rs.map (·.it) = l) (hn : l.length ≤ 1048576) (hx : ∀ x ∈ l, x.x.length ≤ 1048576)
  (hw : Step S ((b, blk 56 (encL rs ++ mksI 3)) :: dataL rs) w0 w0) (hl : ∀ {L : List (Nat × Obj)} {w : World}, Step S L w0 w → Its w u l) :
  Calls Tryz.prog 19 #[.slice (some ⟨b, 0, none⟩) l.length (l.length + 3), u] w0 fun e w' => e = .returned (.bool true) ∧ Step S [] w0 w' := by
 have hs := hw
 have hobt := (hl hs).sl.form
 obtain ⟨av, cv, rfl⟩ := hobt
 have hrl : rs.length = l.length := by rw [← hrs, List.length_map]
 have hel := encL_len rs
 refine calls (n := 104) Tryz.func19 rfl rfl rfl ?_
 refine cQ <| cR <| wa rfl <| wZ <| cQ <| cR <| wm rfl <| wm rfl <| wV rfl (run_lenSl underlying22 rfl) <| wV rfl (run_add (c := ((l.length + 3 : Nat) : Int)) rfl rfl (by omega) (by omega)) <| wV rfl (run_sliceSl0 (hi := l.length + 3) (m := l.length + 3) underlying22 ty56 rfl rfl rfl (by simp) (by omega) (by omega)) <| wa rfl <| wZ ?_
 refine CW.seqM (fun f w => Step S ((b, blk 56 (encL rs ++ mksI 3)) :: dataL rs) w0 w ∧ Holds f [(0, .slice (some ⟨b, 0, none⟩) l.length (l.length + 3))]) ?_ ?_
 ·refine cQ <| cR <| wa rfl <| wZ <| CW.block ?_
  refine CW.loop (fun m f w' => ∃ i, i ≤ l.length + 3 ∧ m = l.length + 3 - i ∧ Step S ((b, blk 56 (encL rs ++ mksI 3)) :: dataL rs) w0 w' ∧ Holds f [(0, .slice (some ⟨b, 0, none⟩) l.length (l.length + 3)), (1, .slice av l.length cv), (5, .slice (some ⟨b, 0, none⟩) (l.length + 3) (l.length + 3)), (6, .int .i64 (i : Nat))]) (m := l.length + 3) ?_ ?_
  ·exact ⟨0, by omega, rfl, hs, rfl, rfl, rfl, rfl, trivial⟩
  clear hs
  rintro m f w ⟨i, hi, rfl, hs, hf⟩
  by_cases hlt : i < l.length + 3
  ·by_cases hin : i < l.length
   ·have hobt : ∃ x, l[i]? = some x := ⟨_, List.getElem?_eq_getElem hin⟩
    obtain ⟨x, hxi⟩ := hobt
    have hobt := it_get hrs hxi
    obtain ⟨bd, hri⟩ := hobt
    have hxl := hx x (List.mem_of_getElem? hxi)
    have hobt := (hl hs).at hxi
    obtain ⟨bl, ol, cl, hc0, -⟩ := hobt
    injection hc0 with hc0 hc1 hc2
    have e1' := congrArg (fun a => Value.slice a l.length cv) hc0
    rw [show Value.slice av l.length cv = Value.slice (some ⟨bl, ol, none⟩) l.length cv from e1'] at hf
    have hrow : ∀ {L : List (Nat × Obj)} {w : World}, Step S L w0 w → At w bl (ol + i * 3) (itC x.p x.d x.v) := fun hs => by
     have hobt := (hl hs).at hxi
     obtain ⟨b', o', c', h1, h2⟩ := hobt
     injection h1 with h1 h3 h4
     rw [hc0] at h1
     injection h1 with h1
     injection h1 with h1 h5
     rw [h1, h5]
     exact h2
    have hme : ∀ {j : Nat} {v : Value} {L : List (Nat × Obj)} {w : World}, Step S ((b, blk 56 (encL rs ++ mksI 3)) :: L) w0 w → j < 3 → (LIt.enc ⟨x, bd⟩)[j]? = some v → w.cell? ⟨b, 0 + i * 3 + j, none⟩ = some v := fun {j v L w} hs hj hv => by
     rw [cell_blk hs.hd, encL_get hri _ j hj, hv]
    have hkb := fun {w} (hs : Step S ((b, blk 56 (encL rs ++ mksI 3)) :: dataL rs) w0 w) => keptBytes_spec (u := x.v) (s := x.x) (b := bd) w ((hl hs).ok x (List.mem_of_getElem? hxi)).hb (by omega) (hs.has (bd, LendV x.x) (List.mem_cons_of_mem _ (data_mem hri)))
    have hobt := hf.chain
    obtain ⟨g, rfl⟩ := hobt
    refine cQ <| cQ <| cR <| wm rfl <| wm rfl <| wV rfl (run_lenSl underlying22 rfl) <| wV rfl (run_bT (run_lss rfl rfl) (by omega)) <| wZ ?_
    refine cC rfl (fun h => ?_) (fun h => ?_)
    ·repeat (first | refine cQ ?_ | refine CW.block ?_ | refine cK ?_)
     refine cR <| wm rfl <| wm rfl <| wV rfl (run_lenSl underlying22 rfl) <| wV rfl (run_bF (run_geq rfl rfl) (by omega)) <| wZ ?_
     refine cC rfl (fun h2 => ?_) (fun h2 => ?_)
     ·cases h2
     repeat (first | refine cQ ?_ | refine cK ?_)
     refine CW.quiet mixedP (by kernel_rfl) hs ?_
     refine qm rfl <| qm rfl <| qV rfl (fun w hs => run_ixSlN underlying22 ty56 rfl rfl (by omega)) <| qV rfl (fun w hs => run_field (o' := 0) underlying56 rfl ty9 rfl rfl rfl) <| qV rfl (fun w hs => run_load1 ty9 rfl ((hme (j := 0) hs (by omega) rfl))) <| qm rfl <| qm rfl <| qV rfl (fun w hs => run_ixSlN underlying22 ty56 rfl rfl (by omega)) <| qV rfl (fun w hs => run_field (o' := 0) underlying56 rfl ty9 rfl rfl rfl) <| qV rfl (fun w hs => run_load1 ty9 rfl (((hrow hs).cell (j := 0) rfl))) <| qV rfl (fun w hs => run_bF (run_strNe rfl rfl) (by exact fun h => h rfl)) <| qm rfl <| QL.yes rfl rfl rfl <| qm rfl ?_
     refine QL.yes rfl rfl rfl <| qm rfl ?_
     refine QL.yes rfl rfl rfl ?_; (first | refine qV rfl (fun w hs => run_ixSlN underlying22 ty56 rfl rfl (by omega)) ?_ | refine qV rfl (fun w hs => run_ixSl underlying22 ty56 rfl rfl (by omega)) ?_)
     refine QL.yes rfl rfl rfl <| qV rfl (fun w hs => run_field (o' := 1) underlying56 rfl ty4 rfl rfl rfl) <| QL.yes rfl rfl rfl <| qV rfl (fun w hs => run_load1 ty4 rfl ((hme (j := 1) hs (by omega) rfl))) <| QL.yes rfl rfl rfl <| qm rfl <| QL.yes rfl rfl rfl <| qm rfl ?_
     refine QL.yes rfl rfl rfl ?_; (first | refine qV rfl (fun w hs => run_ixSlN underlying22 ty56 rfl rfl (by omega)) ?_ | refine qV rfl (fun w hs => run_ixSl underlying22 ty56 rfl rfl (by omega)) ?_)
     refine QL.yes rfl rfl rfl <| qV rfl (fun w hs => run_field (o' := 1) underlying56 rfl ty4 rfl rfl rfl) <| QL.yes rfl rfl rfl <| qV rfl (fun w hs => run_load1 ty4 rfl (((hrow hs).cell (j := 1) rfl))) <| QL.yes rfl rfl rfl <| qV rfl (fun w hs => run_bE (run_neqB underlying4 rfl rfl) (show (x.d != x.d) = false by simp)) <| qV rfl (fun w hs => run_pickF rfl) <| qm rfl <| QL.yes rfl rfl rfl <| qm rfl <| QL.yes rfl rfl rfl <| qm rfl ?_
     refine QL.yes rfl rfl rfl ?_; (first | refine qV rfl (fun w hs => run_ixSlN underlying22 ty56 rfl rfl (by omega)) ?_ | refine qV rfl (fun w hs => run_ixSl underlying22 ty56 rfl rfl (by omega)) ?_)
     refine QL.yes rfl rfl rfl <| qV rfl (fun w hs => run_field (o' := 2) underlying56 rfl ty38 rfl rfl rfl) <| QL.yes rfl rfl rfl <| qV rfl (fun w hs => run_load1 ty38 rfl ((hme (j := 2) hs (by omega) rfl))) <| QL.yes rfl rfl rfl <| qm rfl <| QL.yes rfl rfl rfl <| qm rfl ?_
     refine QL.yes rfl rfl rfl ?_; (first | refine qV rfl (fun w hs => run_ixSlN underlying22 ty56 rfl rfl (by omega)) ?_ | refine qV rfl (fun w hs => run_ixSl underlying22 ty56 rfl rfl (by omega)) ?_)
     refine QL.yes rfl rfl rfl <| qV rfl (fun w hs => run_field (o' := 2) underlying56 rfl ty38 rfl rfl rfl) <| QL.yes rfl rfl rfl <| qV rfl (fun w hs => run_load1 ty38 rfl (((hrow hs).cell (j := 2) rfl))) <| QL.yes rfl rfl rfl ?_
     refine QL.enter rfl (fun w => run_call en33 rfl rfl) (fun w hs => hkb hs) ?_
     refine QL.yes rfl rfl rfl ?_; (first | refine qV rfl (fun w hs => run_notB rfl) ?_ | refine qV rfl (fun w hs => run_not rfl) ?_)
     refine qV rfl (fun w hs => run_pickF rfl) ?_
     refine QL.nil (fun w hs => ?_)
     refine cC rfl (fun h2 => ?_) (fun h2 => ?_)
     ·cases h2
     refine cK <| cR <| wm rfl <| wV rfl (run_add (c := ((i + 1 : Nat) : Int)) rfl rfl (by omega) (by omega)) <| wa rfl <| wZ ?_
     refine (show _ ∧ _ from ⟨rfl, _, ?_, i + 1, by omega, rfl, hs, rfl, e1'.symm, rfl, rfl, trivial⟩)
     omega
    ·cases h
   ·have hobt := hf.chain
    obtain ⟨g, rfl⟩ := hobt
    have hobt : ∃ j, i = l.length + j := ⟨i - l.length, by omega⟩
    obtain ⟨j, rfl⟩ := hobt
    have hmk := mksI_get (rs := rs) (j := j) hrl (by omega)
    refine cQ <| cQ <| cR <| wm rfl <| wm rfl <| wV rfl (run_lenSl underlying22 rfl) <| wV rfl (run_bT (run_lss rfl rfl) (by omega)) <| wZ ?_
    refine cC rfl (fun h => ?_) (fun h => ?_)
    ·repeat (first | refine cQ ?_ | refine CW.block ?_ | refine cK ?_)
     refine cR <| wm rfl <| wm rfl <| wV rfl (run_lenSl underlying22 rfl) <| wV rfl (run_bT (run_geq rfl rfl) (by omega)) <| wZ ?_
     refine cC rfl (fun h2 => ?_) (fun h2 => ?_)
     ·refine cQ <| cQ <| cR <| wm rfl <| wm rfl <| wV rfl (run_ixSlN underlying22 ty56 rfl rfl (by omega)) <| wV rfl (run_field (o' := 0) underlying56 rfl ty9 rfl rfl rfl) <| wV rfl (run_load1 ty9 rfl ((by rw [cell_blk hs.hd]; exact hmk))) <| wV rfl (run_bF (run_strNe rfl rfl) (by exact fun h => h rfl)) <| wZ ?_
      refine cC rfl (fun h3 => ?_) (fun h3 => ?_)
      ·cases h3
      repeat (first | refine cK ?_ | refine CW.exit ?_)
      refine cR <| wm rfl <| wV rfl (run_add (c := ((l.length + j + 1 : Nat) : Int)) rfl rfl (by omega) (by omega)) <| wa rfl <| wZ ?_
      refine (show _ ∧ _ from ⟨rfl, _, ?_, l.length + j + 1, by omega, rfl, hs, rfl, rfl, rfl, rfl, trivial⟩)
      omega
     ·cases h2
    ·cases h
  ·have hobt := hf.chain
   obtain ⟨g, rfl⟩ := hobt
   refine cQ <| cQ <| cR <| wm rfl <| wm rfl <| wV rfl (run_lenSl underlying22 rfl) <| wV rfl (run_bF (run_lss rfl rfl) (by omega)) <| wZ ?_
   refine cC rfl (fun h => ?_) (fun h => ?_)
   ·cases h
   refine CW.exit ?_
   exact ⟨rfl, hs, rfl, trivial⟩
 clear hs
 rintro f w ⟨hs, hf⟩
 have hobt := hf.chain
 obtain ⟨g, rfl⟩ := hobt
 refine cQ <| cQ <| cR <| wa rfl <| wZ <| CW.block ?_
 refine CW.loop (fun m f w' => ∃ i sp, i ≤ l.length ∧ m = l.length - i ∧ sp.length = i * 3 ∧ Step S ((b, blk 56 (sp ++ (encL (rs.drop i) ++ mksI 3))) :: dataL (rs.drop i)) w0 w' ∧ Holds f [(0, .slice (some ⟨b, 0, none⟩) l.length (l.length + 3)), (7, .int .i64 (i : Nat))]) (m := l.length) ?_ ?_
 ·exact ⟨0, [], by omega, rfl, rfl, hs, rfl, rfl, trivial⟩
 clear hs
 rintro m f w ⟨i, sp, hi, rfl, hsp, hs, hf⟩
 have hobt := hf.chain
 obtain ⟨g, rfl⟩ := hobt
 by_cases hlt : i < l.length
 ·have hobt : ∃ x, l[i]? = some x := ⟨_, List.getElem?_eq_getElem hlt⟩
  obtain ⟨x, hxi⟩ := hobt
  have hobt := it_get hrs hxi
  obtain ⟨bd, hri⟩ := hobt
  have hxl := hx x (List.mem_of_getElem? hxi)
  have hdr : rs.drop i = ⟨x, bd⟩ :: rs.drop (i + 1) := by
   have hobt := List.getElem?_eq_some_iff.1 hri
   obtain ⟨h1, h2⟩ := hobt
   rw [List.drop_eq_getElem_cons h1, h2]
  rw [hdr] at hs
  have hobt : ∃ E, encL (rs.drop (i + 1)) ++ mksI 3 = E := ⟨_, rfl⟩
  obtain ⟨E, hE⟩ := hobt
  have hobt : ∃ D, dataL (rs.drop (i + 1)) = D := ⟨_, rfl⟩
  obtain ⟨D, hD⟩ := hobt
  have hEl : E.length = (l.length - i + 2) * 3 := by
   rw [← hE, List.length_append, encL_len, List.length_drop, hrl, mksI_len]
   omega
  replace hs : Step S ((b, blk 56 (sp ++ (LIt.enc ⟨x, bd⟩ ++ E))) :: (bd, LendV x.x) :: D) w0 w := by
   rw [← hE, ← hD, ← List.append_assoc (LIt.enc _)]
   exact hs
  have hdat : (sp ++ (LIt.enc ⟨x, bd⟩ ++ E))[0 + i * 3 + 2]? = some (.slice (some ⟨bd, 0, none⟩) x.x.length (x.x.length + 5)) := by
   rw [List.getElem?_append_right (by omega), hsp, show 0 + i * 3 + 2 - i * 3 = 2 by omega]
   rfl
  have hbl : (sp ++ (LIt.enc ⟨x, bd⟩ ++ E)).length = i * 3 + 3 + (l.length - i + 2) * 3 := by
   rw [List.length_append, List.length_append, hsp, hEl]
   show i * 3 + (3 + _) = _
   omega
  have hspl : splice (sp ++ (LIt.enc ⟨x, bd⟩ ++ E)) (0 + i * 3) (itC [115, 112, 111, 105, 108, 116] false (.slice none 0 0)) = (sp ++ itC [115, 112, 111, 105, 108, 116] false (.slice none 0 0)) ++ E := by
   rw [← List.append_assoc, splice_mid (A := sp) (M := LIt.enc ⟨x, bd⟩) (R := E) (vs := itC [115, 112, 111, 105, 108, 116] false (.slice none 0 0)) (by omega) rfl]
  refine cQ <| cQ <| cR <| wm rfl <| wm rfl <| wV rfl (run_lenSl underlying22 rfl) <| wV rfl (run_bT (run_lss rfl rfl) (by omega)) <| wZ ?_
  refine cC rfl (fun h => ?_) (fun h => ?_)
  ·refine cK ?_
   refine CW.seqM (fun f w => Step S ((b, blk 56 ((sp ++ itC [115, 112, 111, 105, 108, 116] false (.slice none 0 0)) ++ E)) :: D) w0 w ∧ Holds f [(0, .slice (some ⟨b, 0, none⟩) l.length (l.length + 3)), (7, .int .i64 (i : Nat))]) ?_ ?_
   ·refine CW.block ?_
    refine CW.seqM (fun f w => ∃ cs, Step S ((b, blk 56 (sp ++ (LIt.enc ⟨x, bd⟩ ++ E))) :: (bd, blk 5 cs) :: D) w0 w ∧ Holds f [(0, .slice (some ⟨b, 0, none⟩) l.length (l.length + 3)), (7, .int .i64 (i : Nat))]) ?_ ?_
    ·refine cQ <| cR <| wa rfl <| wZ <| CW.block ?_
     refine CW.loop (fun m f w' => ∃ k y, k ≤ x.x.length ∧ m = x.x.length - k ∧ y.length = x.x.length ∧ Step S ((b, blk 56 (sp ++ (LIt.enc ⟨x, bd⟩ ++ E))) :: (bd, blk 5 (u8s y ++ pad9 5)) :: D) w0 w' ∧ Holds f [(0, .slice (some ⟨b, 0, none⟩) l.length (l.length + 3)), (7, .int .i64 (i : Nat)), (8, .int .i64 (k : Nat))]) (m := x.x.length) ?_ ?_
     ·exact ⟨0, x.x, by omega, rfl, rfl, hs, rfl, rfl, rfl, trivial⟩
     clear hs
     rintro m f w ⟨k, y, hk, rfl, hy, hs, hf⟩
     have hobt := hf.chain
     obtain ⟨g, rfl⟩ := hobt
     by_cases hkl : k < x.x.length
     ·have hobt : ∃ c, y[k]? = some c := ⟨_, List.getElem?_eq_getElem (by omega)⟩
      obtain ⟨c, hc⟩ := hobt
      have hyk : (u8s y ++ pad9 5)[0 + k * 1]? = some (.int .u8 c.toNat) := by
       rw [List.getElem?_append_left (by rw [u8s_len]; omega), Nat.zero_add, Nat.mul_one]
       simp [u8s, hc]
      have hyl : (u8s y ++ pad9 5).length = x.x.length + 5 := by simp [u8s, pad9, hy]
      have hys : (u8s y ++ pad9 5).set (0 + k * 1) (.int .u8 (UInt8.ofNat (c.toNat + 1)).toNat) = u8s (y.set k (UInt8.ofNat (c.toNat + 1))) ++ pad9 5 := by
       rw [Nat.zero_add, Nat.mul_one, List.set_append_left _ _ (by rw [u8s_len]; omega)]
       simp [u8s, List.map_set]
      refine cQ <| cQ <| cR <| wm rfl <| wm rfl <| wm rfl <| wV rfl (run_ixSlN underlying22 ty56 rfl rfl (by omega)) <| wV rfl (run_field (o' := 2) underlying56 rfl ty38 rfl rfl rfl) <| wV rfl (run_load1 ty38 rfl (hs.c0 hdat)) <| wV rfl (run_lenSl underlying38 rfl) <| wV rfl (run_bT (run_lss rfl rfl) (by omega)) <| wZ ?_
      refine cC rfl (fun h => ?_) (fun h => ?_)
      ·repeat (first | refine cQ ?_ | refine CW.block ?_ | refine cK ?_)
       refine CW.quietT (l1 := [_, _, _, _, _, _, _, _, _, _, _, _, _, _, _, _]) (l2 := [_]) 16 rfl mixedP rfl (by kernel_rfl) hs ?_
       refine qm rfl <| qm rfl <| qV rfl (fun w hs => run_ixSlN underlying22 ty56 rfl rfl (by omega)) <| qV rfl (fun w hs => run_field (o' := 2) underlying56 rfl ty38 rfl rfl rfl) <| qV rfl (fun w hs => run_load1 ty38 rfl (hs.c0 hdat)) <| qm rfl <| qm rfl <| qm rfl <| qV rfl (fun w hs => run_ixSlN underlying22 ty56 rfl rfl (by omega)) <| qV rfl (fun w hs => run_field (o' := 2) underlying56 rfl ty38 rfl rfl rfl) <| qV rfl (fun w hs => run_load1 ty38 rfl (hs.c0 hdat)) <| qm rfl <| qV rfl (fun w hs => run_ixSlN underlying38 ty5 rfl rfl (by omega)) <| qV rfl (fun w hs => run_load1 ty5 rfl (hs.c1 hyk)) ?_
       refine qV rfl (fun w hs => run_inc8 rfl rfl) <| qV rfl (fun w hs => run_ixSlN underlying38 ty5 rfl rfl (by omega)) ?_
       refine QL.nil (fun w hs => ?_)
       refine WL.store1_1 ty5 rfl rfl (rfl) hs (by first | (simp; done) | omega | (simp only [List.length_append, List.length_replicate, List.length_cons, List.length_nil, List.length_set]; omega) | (simp [Ent.cells, u8s]; done) | exact Nat.le_of_ble_eq_true rfl) (fun w hs => ?_)
       refine wZ ?_
       replace hs : Step S ((b, blk 56 (sp ++ (LIt.enc ⟨x, bd⟩ ++ E))) :: (bd, blk 5 (u8s (y.set k (UInt8.ofNat (c.toNat + 1))) ++ pad9 5)) :: D) w0 w := by
        rw [← hys]
        exact hs
       refine cR <| wm rfl <| wV rfl (run_add (c := ((k + 1 : Nat) : Int)) rfl rfl (by omega) (by omega)) <| wa rfl <| wZ ?_
       refine (show _ ∧ _ from ⟨rfl, _, ?_, k + 1, y.set k (UInt8.ofNat (c.toNat + 1)), by omega, rfl, (by rw [List.length_set]; exact hy), hs, rfl, rfl, rfl, trivial⟩)
       omega
      ·cases h
     ·refine cQ <| cQ <| cR <| wm rfl <| wm rfl <| wm rfl <| wV rfl (run_ixSlN underlying22 ty56 rfl rfl (by omega)) <| wV rfl (run_field (o' := 2) underlying56 rfl ty38 rfl rfl rfl) <| wV rfl (run_load1 ty38 rfl (hs.c0 hdat)) <| wV rfl (run_lenSl underlying38 rfl) <| wV rfl (run_bF (run_lss rfl rfl) (by omega)) <| wZ ?_
      refine cC rfl (fun h => ?_) (fun h => ?_)
      ·cases h
      refine CW.exit ?_
      exact ⟨rfl, _, hs, rfl, rfl, trivial⟩
    clear hs
    rintro f w ⟨cs, hs, hf⟩
    have hobt := hf.chain
    obtain ⟨g, rfl⟩ := hobt
    refine cR <| wm rfl <| wm rfl <| wV rfl (run_build rfl (bld_mark _ _)) <| wV rfl (run_ixSlN underlying22 ty56 rfl rfl (by omega)) ?_
    refine WL.storeN ty56 rfl rfl (rfl) (Cells1.of_all rfl) (hs) (by first | (simp; done) | omega | (simp only [List.length_append, List.length_replicate, List.length_cons, List.length_nil, List.length_set]; omega) | (simp [Ent.cells, u8s]; done) | exact Nat.le_of_ble_eq_true rfl) (fun w hs => ?_)
    refine wZ ?_
    replace hs : Step S ((b, blk 56 ((sp ++ itC [115, 112, 111, 105, 108, 116] false (.slice none 0 0)) ++ E)) :: (bd, blk 5 cs) :: D) w0 w := by
     rw [← hspl]
     exact hs
    exact ⟨rfl, hs.swap.tail, rfl, rfl, trivial⟩
   clear hs
   rintro f w ⟨hs, hf⟩
   have hobt := hf.chain
   obtain ⟨g, rfl⟩ := hobt
   rw [← hE, ← hD] at hs
   refine cR <| wm rfl <| wV rfl (run_add (c := ((i + 1 : Nat) : Int)) rfl rfl (by omega) (by omega)) <| wa rfl <| wZ ?_
   refine (show _ ∧ _ from ⟨rfl, _, ?_, i + 1, sp ++ itC [115, 112, 111, 105, 108, 116] false (.slice none 0 0), by omega, rfl, (by rw [List.length_append, hsp]; show i * 3 + 3 = _; omega), hs, rfl, rfl, trivial⟩)
   omega
  ·cases h
 ·refine cQ <| cQ <| cR <| wm rfl <| wm rfl <| wV rfl (run_lenSl underlying22 rfl) <| wV rfl (run_bF (run_lss rfl rfl) (by omega)) <| wZ ?_
  refine cC rfl (fun h => ?_) (fun h => ?_)
  ·cases h
  repeat (first | refine cQ ?_ | refine CW.exit ?_)
  refine cR <| wa rfl <| wZ ?_
  refine CW.ret ?_
  refine fin_ret1 rfl ?_
  exact ⟨rfl, hs.clear⟩
end Go.Gx
/-! Vn6 -/
namespace Go.Gx
open Go.Proofs Go.Proofs.Tryz Go.RowKit
set_option maxRecDepth 100000
def triI (x : It) : Tri := (x.p, x.d, x.x)
theorem twinR_spec {v : Value} {x : List UInt8} (w0 : World) (hl : Sl w0 1 v x.length (u8s x)) (hb : x.length ≤ 1099511627776) : Calls Tryz.prog 52 #[v] w0 fun e w' => ∃ v' Lv, e = .returned v' ∧ OwnSl 5 1 v' x.length (u8s x) Lv ∧ Step [] Lv w0 w' := by
 have hs : Step [] [] w0 w0 := Step.refl w0
 have hobt := hl.form
 obtain ⟨a, c, rfl⟩ := hobt
 refine calls (n := 6) Tryz.func52 rfl rfl rfl ?_
 refine cQ <| cR <| wa rfl <| wZ <| cQ <| cR ?_
 refine WL.buildSlice (cs := []) underlying38 ty5 rfl (by decide) rfl (by simp [Filled, Instr.fill]) rfl hs (fun b3 w hs => ?_)
 refine wm rfl ?_
 refine WL.append underlying38 underlying38 ty5 rfl (by decide) rfl rfl ((OwnSl.mk (k := 0) (by simp))) (hs) (hl.step0 hs.clear) (Cells1.u8s x) (by first | omega | (simp only [List.length_append, List.length_cons, List.length_nil]; omega)) rfl (fun v5 Lv5 w hv5 hs => ?_)
 refine wa rfl <| wZ ?_
 rw [Nat.zero_add, List.nil_append] at hv5
 refine CW.ret ?_
 refine fin_ret1 rfl ?_
 exact ⟨_, _, rfl, hv5, by simpa using hs⟩
theorem least_spec (a b : Int) (w0 : World) : Calls Tryz.prog 51 #[.int .i64 a, .int .i64 b] w0 (Ret0 (.int .i64 (min a b)) w0) := by
 have hs : Step [] [] w0 w0 := Step.refl w0
 refine calls (n := 10) Tryz.func51 rfl rfl rfl ?_
 refine cQ <| cR <| wa rfl <| wZ ?_
 by_cases h : a < b
 ·have e : a = min a b := by omega
  refine cQ <| cQ <| cR <| wm rfl <| wm rfl <| wV rfl (run_bT (run_lss rfl rfl) (by exact h)) <| wZ ?_
  refine cC rfl (fun h2 => ?_) (fun h2 => ?_)
  ·refine cQ <| cR <| wm rfl <| wa rfl <| wZ ?_
   refine CW.ret ?_
   refine fin_ret1 rfl ?_
   exact ⟨congrArg (fun z => Ending.returned (.int .i64 z)) e, hs⟩
  ·cases h2
 ·have e : b = min a b := by omega
  refine cQ <| cQ <| cR <| wm rfl <| wm rfl <| wV rfl (run_bF (run_lss rfl rfl) (by exact h)) <| wZ ?_
  refine cC rfl (fun h2 => ?_) (fun h2 => ?_)
  ·cases h2
  repeat (first | refine cQ ?_ | refine cK ?_)
  refine cR <| wm rfl <| wa rfl <| wZ ?_
  refine CW.ret ?_
  refine fin_ret1 rfl ?_
  exact ⟨congrArg (fun z => Ending.returned (.int .i64 z)) e, hs⟩
/-- The document's files, no handle open. -/
structure RFS (bg : Nat) (R : List RowI) (u : Value) (Lu : List (Nat × Obj)) : Prop where
 own : OwnSl 56 3 u R.length (rowsI R) Lu
 data : ∀ r ∈ R, OwnSl 5 1 r.v r.x.length (u8s r.x) r.Lv
def rfsO (u : Value) (a b c : Int) : Obj := blk 34 [u, .slice none 0 0, .int .i64 a, .int .i64 b, .int .i64 c]
section
variable {bg : Nat} {R : List RowI} {u : Value} {Lu : List (Nat × Obj)} {a b c : Int} {w0 : World}
theorem rbytes_spec (h : RFS bg R u Lu) (hg : w0.heap[bg]? = some (rfsO u a b c)) (hw : ∀ p ∈ Lu, w0.heap[p.1]? = some p.2) (hx : ∀ r ∈ R, r.x.length ≤ 1048576) (hn : R.length ≤ 131072) : Calls Tryz.prog 25 #[.pointer (some ⟨bg, 0, none⟩)] w0 (Ret0 (.int .i64 ((R.map fun r => r.x.length).sum : Nat)) w0) := by
 have hs : Step [] [] w0 w0 := Step.refl w0
 obtain ⟨hown, hdat⟩ := h
 have hobt := hown.form
 obtain ⟨au, cu, rfl⟩ := hobt
 have hfs : ∀ {L : List (Nat × Obj)} {w : World}, Step [] L w0 w → w.heap[bg]? = some (rfsO (.slice au R.length cu) a b c) := fun hs => hs.old hg (by simp)
 refine calls (n := 26) Tryz.func25 rfl rfl rfl ?_
 refine cQ <| cR <| wa rfl <| wZ <| cQ <| cR <| wa rfl <| wZ <| cQ <| cQ <| cR <| wa rfl <| wZ <| CW.block ?_
 refine CW.loop (fun m f w => ∃ i, i ≤ R.length ∧ m = R.length - i ∧ Step [] [] w0 w ∧ ((R.take i).map fun r => r.x.length).sum ≤ i * 1048576 ∧ Holds f [(0, .pointer (some ⟨bg, 0, none⟩)), (3, .int .i64 (((R.take i).map fun r => r.x.length).sum : Nat)), (4, .int .i64 (i : Nat))]) (m := R.length) ?_ ?_
 ·exact ⟨0, by omega, rfl, hs, by simp, rfl, rfl, rfl, trivial⟩
 clear hs
 rintro m f w ⟨i, hi, rfl, hs, hsum, hf⟩
 have hobt := hf.chain
 obtain ⟨g, rfl⟩ := hobt
 by_cases hlt : i < R.length
 ·have hobt : ∃ r, R[i]? = some r := ⟨_, List.getElem?_eq_getElem hlt⟩
  obtain ⟨r, hr⟩ := hobt
  have hrx := hx r (List.mem_of_getElem? hr)
  have hobt := (hdat r (List.mem_of_getElem? hr)).form
  obtain ⟨av, cv, hv⟩ := hobt
  have hobt := hown.some1 (by omega)
  obtain ⟨bu, capu, mu, hqu, hLu, hcu⟩ := hobt
  have hbk : w0.heap[bu]? = some (blk 56 (rowsI R ++ mu)) := hw (bu, blk 56 (rowsI R ++ mu)) (by rw [hLu]; simp)
  have hrow := fun {L' w} (hs : Step [] L' w0 w) => rowsI_blk (b := bu) (A := [(bu, blk 56 (rowsI R ++ mu))]) (T := 56) (more := mu) (Step.start (L := [(bu, blk 56 (rowsI R ++ mu))]) (w := w) (by simp) (fun p hp => by rw [List.mem_singleton.1 hp]; exact hs.old hbk (by simp))) (by simp) hr
  have hcL : ∀ {L : List (Nat × Obj)} {w : World}, Step [] L w0 w → w.cell? ⟨bg, 0, none⟩ = some (.slice (some ⟨bu, 0, none⟩) R.length capu) := fun hs => by
   rw [cell_blk (hfs hs), ← hqu]
   rfl
  have hev : r.enc[2]? = some (.slice av r.x.length cv) := by show some r.v = _; rw [hv]
  have hst : ((R.take (i + 1)).map fun r => r.x.length).sum = ((R.take i).map fun r => r.x.length).sum + r.x.length := by
   have hobt := List.getElem?_eq_some_iff.1 hr
   obtain ⟨h1, h2⟩ := hobt
   rw [← List.take_append_getElem h1, h2]
   simp
  refine cQ <| cQ <| cR <| wm rfl <| wm rfl <| wn rfl rfl <| wV rfl (run_field (o' := 0) underlying34 rfl ty22 rfl rfl rfl) <| wV rfl (run_load1 ty22 rfl ((by rw [cell_blk (hfs hs)]; rfl))) <| wV rfl (run_lenSl underlying22 rfl) <| wV rfl (run_bT (run_lss rfl rfl) (by omega)) <| wZ ?_
  refine cC rfl (fun h => ?_) (fun h => ?_)
  ·repeat (first | refine cQ ?_ | refine CW.block ?_ | refine cK ?_)
   refine cR <| wm rfl <| wm rfl <| wn rfl rfl <| wV rfl (run_field (o' := 0) underlying34 rfl ty22 rfl rfl rfl) <| wV rfl (run_load1 ty22 rfl (hcL hs)) <| wm rfl <| wV rfl (run_ixSlN underlying22 ty56 rfl rfl (by omega)) <| wV rfl (run_field (o' := 2) underlying56 rfl ty38 rfl rfl rfl) <| wV rfl (run_load1 ty38 rfl (((hrow hs).cell hev))) <| wV rfl (run_lenSl underlying38 rfl) <| wV rfl (run_add (c := ((((R.take (i + 1)).map fun r => r.x.length).sum : Nat) : Int)) rfl rfl (by omega) (by omega)) <| wa rfl <| wZ <| cR <| wm rfl <| wV rfl (run_add (c := ((i + 1 : Nat) : Int)) rfl rfl (by omega) (by omega)) <| wa rfl <| wZ ?_
   refine (show _ ∧ _ from ⟨rfl, _, ?_, i + 1, by omega, rfl, hs, by omega, rfl, rfl, rfl, trivial⟩)
   omega
  ·cases h
 ·have hv : Value.int .i64 (((R.take i).map fun r => r.x.length).sum : Nat) = .int .i64 ((R.map fun r => r.x.length).sum : Nat) := by rw [List.take_of_length_le (by omega)]
  refine cQ <| cQ <| cR <| wm rfl <| wm rfl <| wn rfl rfl <| wV rfl (run_field (o' := 0) underlying34 rfl ty22 rfl rfl rfl) <| wV rfl (run_load1 ty22 rfl ((by rw [cell_blk (hfs hs)]; rfl))) <| wV rfl (run_lenSl underlying22 rfl) <| wV rfl (run_bF (run_lss rfl rfl) (by omega)) <| wZ ?_
  refine cC rfl (fun h => ?_) (fun h => ?_)
  ·cases h
  repeat (first | refine cQ ?_ | refine CW.exit ?_)
  refine cR <| wm rfl <| wa rfl <| wZ ?_
  refine CW.ret ?_
  refine fin_ret1 rfl ?_
  exact ⟨congrArg Ending.returned hv, hs⟩
end
end Go.Gx
/-! Vn7 -/
namespace Go.Gx
open Go.Proofs Go.Proofs.Tryz Go.RowKit
set_option maxRecDepth 100000
theorem bld_rfs (a b c : Int) (w : World) : (Instr.build 34 #[(2, .agg (quoC a b c).toArray)]).run Tryz.prog w = .ok (.agg #[.slice none 0 0, .slice none 0 0, .int .i64 a, .int .i64 b, .int .i64 c]) w := by kernel_rfl
theorem bld_itv (p : List UInt8) (d : Bool) (a : Option Addr) (n c : Nat) (w : World) : (Instr.build 56 #[(0, str p), (1, .bool d), (2, .slice a n c)]).run Tryz.prog w = .ok (.agg #[str p, .bool d, .slice a n c]) w := by kernel_rfl
theorem chkE_64 {l : List It} (h : chkE l ≠ 0) : chkE l = 64 := by
 unfold chkE at h ⊢
 split
 ·rfl
 ·rename_i h1
  rw [if_neg h1] at h
  split
  ·rfl
  ·rename_i D hD
   rw [hD] at h
   split
   ·rfl
   ·rename_i h2
    exact absurd (if_neg h2) h
theorem chk_clean : ∀ (l : List It) {D : DL} {prev : Option (List UInt8)} {D' : DL}, chkGo D prev l = some D' → ∀ x ∈ l, isCleanL x.p = true ∧ x.p ≠ [] ∧ (x.d = true → x.x = []) ∧ x.x.length ≤ 1048576
 | [], D, prev, D', _, x, hx => by cases hx
 | y :: l, D, prev, D', h, x, hx => by
  rw [chkGo] at h
  cases hc : chkStep D prev y with
  | none => rw [hc] at h; cases h
  | some D1 =>
   rw [hc] at h
   have hobt := chk_inv hc
   obtain ⟨he, n, _, _, _, hd, hx2, _⟩ := hobt
   rcases List.mem_cons.1 hx with rfl | hx
   ·exact ⟨(split_ok he).1, (split_ok he).2, hd, hx2⟩
   ·exact chk_clean l (show chkGo D1 (some y.p) l = some D' from h) x hx
section
variable {α : Type} {x o : α} {lv lu d q v : List α}
theorem perm_r2 : (x :: (lv ++ (o :: (lu ++ (d ++ q))))).Perm (lu ++ (x :: (lv ++ (o :: (d ++ q))))) := by
 classical
 exact List.perm_iff_count.2 fun z => by
  simp only [List.count_append, List.count_cons]
  omega
theorem perm_r3 : (v ++ (x :: (lv ++ (o :: (d ++ q))))).Perm (o :: (v ++ (x :: (lv ++ (d ++ q))))) := by
 classical
 exact List.perm_iff_count.2 fun z => by
  simp only [List.count_append, List.count_cons]
  omega
theorem perm_r4 : (o :: (v ++ (x :: (lv ++ (d ++ q))))).Perm (x :: (o :: (v ++ ((d ++ lv) ++ q)))) := by
 classical
 exact List.perm_iff_count.2 fun z => by
  simp only [List.count_append, List.count_cons]
  omega
end
theorem flatR {R : List RowI} {r : RowI} : (R ++ [r]).flatMap (·.Lv) = R.flatMap (·.Lv) ++ r.Lv := by simp
theorem rowsI_app (R : List RowI) (r : RowI) : rowsI (R ++ [r]) = rowsI R ++ r.enc := by simp [rowsI]
def NewRP (a b c : Int) (l : List It) (w0 : World) (e : Ending) (w' : World) : Prop :=
 (newE a b l ≠ 0 ∧ e = .returned (.tuple #[.pointer none, .int .i64 (newE a b l)]) ∧ Step [] [] w0 w') ∨
 (newE a b l = 0 ∧ ∃ bg u R Lu, e = .returned (.tuple #[.pointer (some ⟨bg, 0, none⟩), .int .i64 0]) ∧ absR R = l.map triI ∧ RFS bg R u Lu ∧ Step [] ((bg, rfsO u (min a 67108864) (min b 65535) (min c 64)) :: (Lu ++ R.flatMap (·.Lv))) w0 w')
set_option maxHeartbeats 8000000 in
theorem rNew_spec {a b c : Int} {v : Value} {l : List It} (w0 : World) (ha : i64s a) (hb : i64s b) (hc : i64s c) (hl : Its w0 v l) (hroom : Room v) (hpl : ∀ x ∈ l, x.p.length < 4294967281) : Calls Tryz.prog 18 #[v, .agg (quoC a b c).toArray] w0 (NewRP a b c l w0) := by
 have hs : Step [] [] w0 w0 := Step.refl w0
 have hobt := hl.sl.form
 obtain ⟨av, cv, rfl⟩ := hobt
 have hlen := hl.len
 have hits := fun {L w} (hs : Step [] L w0 w) => (⟨hl.sl.step0 hs, fun x hx => ⟨(hl.ok x hx).hb.step0 hs, (hl.ok x hx).lp, (hl.ok x hx).lb⟩, hl.len⟩ : Its w (.slice av l.length cv) l)
 have htree := fun {L w} (hs : Step [] L w0 w) => isTreeG_spec w (hits hs) hpl hroom
 by_cases hE : chkE l ≠ 0
 ·have hE1 : newE a b l = 64 := by
   unfold newE
   rw [if_pos hE]
   exact chkE_64 hE
  rw [decide_eq_false hE] at htree
  refine calls (n := 75) Tryz.func18 rfl rfl rfl ?_
  refine cQ <| cR ?_
  refine WL.box (cs := (quoC a b c)) rfl rfl rfl hs (fun b3 w hs => ?_)
  refine wa rfl <| wa rfl <| wZ <| cQ <| cQ <| cR <| wm rfl ?_
  refine wE rfl (run_call en50 rfl rfl) (htree hs) ?_
  rintro e w ⟨rfl, hq⟩
  refine ⟨_, rfl, ?_⟩
  replace hs := hs.callE hq
  refine wV rfl (run_not rfl) <| wZ ?_
  refine cC rfl (fun h => ?_) (fun h => ?_)
  ·refine cQ <| cR <| wa rfl <| wa rfl <| wZ ?_
   refine CW.ret ?_
   refine fin_ret2 rfl ?_
   exact .inl ⟨by rw [hE1]; decide, by rw [hE1]; rfl, hs.clear⟩
  ·cases h
 have hE : chkE l = 0 := Classical.byContradiction hE
 rw [decide_eq_true hE] at htree
 have hobt := chkE_go hE
 obtain ⟨hl1, ⟨D0, hD0⟩, hsum⟩ := hobt
 have hcl := chk_clean l hD0
 have hobt : ∃ z, min a 67108864 = z := ⟨_, rfl⟩
 obtain ⟨qa, hqa⟩ := hobt
 have hobt : ∃ z, min b 65535 = z := ⟨_, rfl⟩
 obtain ⟨qb, hqb⟩ := hobt
 have hobt : ∃ z, min c 64 = z := ⟨_, rfl⟩
 obtain ⟨qc, hqc⟩ := hobt
 have hm1 := fun w => least_spec a 67108864 w
 have hm2 := fun w => least_spec b 65535 w
 have hm3 := fun w => least_spec c 64 w
 simp only [hqa] at hm1
 simp only [hqb] at hm2
 simp only [hqc] at hm3
 have hnE : newE a b l = if qa < (sumL l : Int) then 96 else if qb < (l.length : Int) then 97 else 0 := by
  unfold newE
  rw [if_neg (fun h => h hE), hqa, hqb]
 refine calls (n := 75) Tryz.func18 rfl rfl rfl ?_
 refine cQ <| cR ?_
 refine WL.box (cs := (quoC a b c)) rfl rfl rfl hs (fun b3 w hs => ?_)
 refine wa rfl <| wa rfl <| wZ <| cQ <| cQ <| cR <| wm rfl ?_
 refine wE rfl (run_call en50 rfl rfl) (htree hs) ?_
 rintro e w ⟨rfl, hq⟩
 refine ⟨_, rfl, ?_⟩
 replace hs := hs.callE hq
 refine wV rfl (run_not rfl) <| wZ ?_
 refine cC rfl (fun h => ?_) (fun h => ?_)
 ·cases h
 refine cK ?_
 refine CW.seqM (fun f w => ∃ b22, Step [] [(b22, rfsO (.slice none 0 0) qa qb qc)] w0 w ∧ Holds f [(0, .slice av l.length cv), (6, .pointer (some ⟨b22, 0, none⟩))]) ?_ ?_
 ·skip
  refine CW.any (A := fun w => w.heap[b3]? = some (blk 24 (quoC a b c))) (C := fun w => w.heap[b3]? = some (blk 24 (quoC a b c))) 1000000 13 mixedP rfl ?_
  replace hs := hs.drew
  refine AL.val 0 rfl (by kernel_rfl) rfl (fun w hs => run_field (o' := 0) underlying24 rfl ty3 rfl rfl rfl) ?_
  refine AL.val 1 rfl (by kernel_rfl) rfl (fun w hs => run_load1 ty3 rfl ((by rw [cell_blk hs]; rfl))) ?_
  refine AL.val 3 rfl (by kernel_rfl) rfl (fun w hs => run_field (o' := 1) underlying24 rfl ty3 rfl rfl rfl) ?_
  refine AL.val 4 rfl (by kernel_rfl) rfl (fun w hs => run_load1 ty3 rfl ((by rw [cell_blk hs]; rfl))) ?_
  refine AL.val 6 rfl (by kernel_rfl) rfl (fun w hs => run_field (o' := 2) underlying24 rfl ty3 rfl rfl rfl) ?_
  refine AL.val 7 rfl (by kernel_rfl) rfl (fun w hs => run_load1 ty3 rfl ((by rw [cell_blk hs]; rfl))) ?_
  refine AL.one 2 (by kernel_rfl) rfl (hs.get (by simp)) (hs.get (by simp)) ?_
  refine wE rfl (run_call en51 rfl rfl) (hm1 _) ?_
  rintro e w ⟨rfl, hq⟩
  refine ⟨_, rfl, ?_⟩
  replace hs := hs.callE hq
  refine wZ ?_
  refine ⟨rfl, ?_⟩
  refine AL.one 5 (by kernel_rfl) rfl (hs.get (by simp)) (hs.get (by simp)) ?_
  refine wE rfl (run_call en51 rfl rfl) (hm2 _) ?_
  rintro e w ⟨rfl, hq⟩
  refine ⟨_, rfl, ?_⟩
  replace hs := hs.callE hq
  refine wZ ?_
  refine ⟨rfl, ?_⟩
  refine AL.one 8 (by kernel_rfl) rfl (hs.get (by simp)) (hs.get (by simp)) ?_
  refine wE rfl (run_call en51 rfl rfl) (hm3 _) ?_
  rintro e w ⟨rfl, hq⟩
  refine ⟨_, rfl, ?_⟩
  replace hs := hs.callE hq
  refine wZ ?_
  refine ⟨rfl, ?_⟩
  refine AL.val 9 rfl (by kernel_rfl) rfl (fun w hs => run_build rfl (bld_quo _ _ _ _)) ?_
  refine AL.val 10 rfl (by kernel_rfl) rfl (fun w hs => run_build rfl (bld_rfs _ _ _ _)) ?_
  refine AL.one 11 (by kernel_rfl) rfl (hs.get (by simp)) (hs.get (by simp)) ?_
  refine WL.box (cs := [.slice none 0 0, .slice none 0 0, .int .i64 qa, .int .i64 qb, .int .i64 qc]) rfl rfl rfl hs (fun b22 w hs => ?_)
  refine wZ ?_
  refine ⟨rfl, ?_⟩
  refine AL.val 12 rfl (by kernel_rfl) rfl (fun w hs => run_assign) ?_
  refine AL.end (by kernel_rfl) (hs.get (by simp)) (hs.get (by simp)) ?_
  exact ⟨rfl, b22, Step.dropR (L2 := [_]) hs, rfl, rfl, trivial⟩
 clear hs htree
 rintro f w ⟨bg, hs, hf⟩
 refine CW.seqM (fun f w => ∃ u R Lu, absR R = l.map triI ∧ RFS bg R u Lu ∧ Step [] ((bg, rfsO u qa qb qc) :: (Lu ++ R.flatMap (·.Lv))) w0 w ∧ Holds f [(6, .pointer (some ⟨bg, 0, none⟩))]) ?_ ?_
 ·have hobt := hf.chain
  obtain ⟨g, rfl⟩ := hobt
  refine cQ <| cR <| wa rfl <| wZ <| CW.block ?_
  refine CW.loop (fun m f w' => ∃ i u R Lu, i ≤ l.length ∧ m = l.length - i ∧ absR R = (l.take i).map triI ∧ RFS bg R u Lu ∧ Step [] ((bg, rfsO u qa qb qc) :: (Lu ++ R.flatMap (·.Lv))) w0 w' ∧ Holds f [(0, .slice av l.length cv), (6, .pointer (some ⟨bg, 0, none⟩)), (7, .int .i64 (i : Nat))]) (m := l.length) ?_ ?_
  ·exact ⟨0, _, [], [], by omega, rfl, rfl, ⟨OwnSl.nil _ _, fun r hr => by cases hr⟩, hs, rfl, rfl, rfl, trivial⟩
  clear hs
  rintro m f w ⟨i, u, R, Lu, hi, rfl, hA, hR, hs, hf⟩
  by_cases hlt : i < l.length
  ·have hobt : ∃ x, l[i]? = some x := ⟨_, List.getElem?_eq_getElem hlt⟩
   obtain ⟨x, hxi⟩ := hobt
   have hxm := List.mem_of_getElem? hxi
   have hxo := hl.ok x hxm
   have hobt := hcl x hxm
   obtain ⟨hxc, hxn, hxd, hxl⟩ := hobt
   have hxpl := clean_len hxc
   have hobt := hl.at hxi
   obtain ⟨bl, ol, cl, hc0, hat⟩ := hobt
   injection hc0 with hc0 hc1 hc2
   have e1' := congrArg (fun a => Value.slice a l.length cv) hc0
   rw [show Value.slice av l.length cv = Value.slice (some ⟨bl, ol, none⟩) l.length cv from e1'] at hf
   have hrow := fun {L w} (hs : Step [] L w0 w) => hat.step hs (by simp)
   have hxv := fun {L w} (hs : Step [] L w0 w) => hxo.hb.step0 hs
   have hobt : ∃ vx, x.v = vx := ⟨_, rfl⟩
   obtain ⟨vx, hvx⟩ := hobt
   have hRl : R.length = i := by
    have := congrArg List.length hA
    rw [absR, List.length_map, List.length_map, List.length_take] at this
    omega
   have hown := hR.own
   have hobt := hf.chain
   obtain ⟨g, rfl⟩ := hobt
   replace hs : Step [] ((bg, rfsO u qa qb qc) :: (Lu ++ (R.flatMap (·.Lv) ++ []))) w0 w := by rw [List.append_nil]; exact hs
   refine cQ <| cQ <| cR <| wm rfl <| wm rfl <| wV rfl (run_lenSl underlying22 rfl) <| wV rfl (run_bT (run_lss rfl rfl) (by omega)) <| wZ ?_
   refine cC rfl (fun h => ?_) (fun h => ?_)
   ·repeat (first | refine cQ ?_ | refine CW.block ?_ | refine cK ?_)
    refine CW.any (A := fun w => Step [] [] w0 w) (C := fun w => w.heap[bg]? = some (rfsO u qa qb qc) ∧ Step [] [] w0 w) 26 27 mixedP rfl ?_
    replace hs := hs.drew
    refine AL.val 0 rfl (by kernel_rfl) rfl (fun w hs => run_move) ?_
    refine AL.val 1 rfl (by kernel_rfl) rfl (fun w hs => run_move) ?_
    refine AL.val 2 rfl (by kernel_rfl) rfl (fun w hs => run_nilCheck rfl) ?_
    refine AL.val 3 rfl (by kernel_rfl) rfl (fun w hs => run_field (o' := 0) underlying34 rfl ty22 rfl rfl rfl) ?_
    refine AL.val 4 rfl (by kernel_rfl) rfl (fun w hs => run_load1 ty22 rfl ((by rw [cell_blk hs.1]; rfl))) ?_
    refine AL.val 5 rfl (by kernel_rfl) rfl (fun w hs => run_move) ?_
    refine AL.val 6 rfl (by kernel_rfl) rfl (fun w hs => run_move) ?_
    refine AL.val 7 rfl (by kernel_rfl) rfl (fun w hs => run_ixSlN underlying22 ty56 rfl rfl (by omega)) ?_
    refine AL.val 8 rfl (by kernel_rfl) rfl (fun w hs => run_field (o' := 0) underlying56 rfl ty9 rfl rfl rfl) ?_
    refine AL.val 9 rfl (by kernel_rfl) rfl (fun w hs => run_load1 ty9 rfl (((hrow hs.2).cell (j := 0) rfl))) ?_
    refine AL.val 10 rfl (by kernel_rfl) rfl (fun w hs => run_move) ?_
    refine AL.val 11 rfl (by kernel_rfl) rfl (fun w hs => run_move) ?_
    refine AL.val 12 rfl (by kernel_rfl) rfl (fun w hs => run_ixSlN underlying22 ty56 rfl rfl (by omega)) ?_
    refine AL.val 13 rfl (by kernel_rfl) rfl (fun w hs => run_field (o' := 1) underlying56 rfl ty4 rfl rfl rfl) ?_
    refine AL.val 14 rfl (by kernel_rfl) rfl (fun w hs => run_load1 ty4 rfl (((hrow hs.2).cell (j := 1) rfl))) ?_
    refine AL.val 15 rfl (by kernel_rfl) rfl (fun w hs => run_move) ?_
    refine AL.val 16 rfl (by kernel_rfl) rfl (fun w hs => run_move) ?_
    refine AL.val 17 rfl (by kernel_rfl) rfl (fun w hs => run_ixSlN underlying22 ty56 rfl rfl (by omega)) ?_
    refine AL.val 18 rfl (by kernel_rfl) rfl (fun w hs => run_field (o' := 2) underlying56 rfl ty38 rfl rfl rfl) ?_
    refine AL.val 19 rfl (by kernel_rfl) rfl (fun w hs => run_load1 ty38 rfl (((hrow hs.2).cell (j := 2) rfl))) ?_
    refine AL.one 20 (by kernel_rfl) rfl (hs.clear) (⟨hs.get (by simp), hs.clear⟩) ?_
    refine wE rfl (run_call en52 rfl rfl) (twinR_spec _ (hxv hs) (by omega)) ?_
    rintro e w ⟨v', Lv49, rfl, hv', hq⟩
    refine ⟨_, rfl, ?_⟩
    replace hs := hs.call0 hq
    have hvf := hv'.form
    obtain ⟨av2, cv2, hve⟩ := hvf
    subst hve
    refine wZ ?_
    refine ⟨rfl, ?_⟩
    refine AL.val 21 rfl (by kernel_rfl) rfl (fun w hs => run_build rfl (bld_itv _ _ _ _ _ _)) ?_
    refine AL.one 22 (by kernel_rfl) rfl (hs.clear) (⟨hs.get (by simp), hs.clear⟩) ?_
    refine WL.buildSlice (cs := (itC x.p x.d (.slice av2 x.x.length cv2))) underlying22 ty56 rfl (by decide) rfl (filled1 rfl rfl) rfl hs (fun b51 w hs => ?_)
    have hsl : Sl w 3 (.slice (some ⟨b51, 0, none⟩) 1 1) 1 (itC x.p x.d (.slice av2 x.x.length cv2)) := .own1 hs rfl
    refine wZ ?_
    refine ⟨rfl, ?_⟩
    refine AL.one 23 (by kernel_rfl) rfl (hs.clear) (⟨hs.get (by simp), hs.clear⟩) ?_
    refine WL.append underlying22 underlying22 ty56 rfl (by decide) rfl rfl (hown) ((hs.perm perm_r2)) (hsl) (Cells1.of_all rfl) (by first | omega | (simp only [List.length_append, List.length_cons, List.length_nil]; omega)) rfl (fun v52 Lv52 w hv52 hs => ?_)
    refine wZ ?_
    refine ⟨rfl, ?_⟩
    refine AL.valA 24 rfl (by kernel_rfl) rfl (fun w hs => run_nilCheck rfl) ?_
    refine AL.val 25 rfl (by kernel_rfl) rfl (fun w hs => run_field (o' := 0) underlying34 rfl ty22 rfl rfl rfl) ?_
    refine AL.one 26 (by kernel_rfl) rfl (hs.clear) (⟨hs.get (by simp), hs.clear⟩) ?_
    refine WL.store1 ty22 rfl rfl (hv52.one) ((hs.perm perm_r3)) (by first | (simp; done) | omega | (simp only [List.length_append, List.length_replicate, List.length_cons, List.length_nil, List.length_set]; omega) | (simp [Ent.cells, u8s]; done) | exact Nat.le_of_ble_eq_true rfl) (fun w hs => ?_)
    refine wZ ?_
    refine ⟨rfl, ?_⟩
    refine AL.relax (by kernel_rfl) ?_
    refine AL.end (by kernel_rfl) (hs.clear) (trivial) ?_
    have hR2 : RFS bg (R ++ [⟨x.p, x.d, .slice av2 x.x.length cv2, x.x, Lv49, rfl, by omega⟩]) v52 Lv52 := by
     refine ⟨?_, fun r hr => ?_⟩
     ·rw [List.length_append, rowsI_app]
      exact hv52
     ·rcases List.mem_append.1 hr with hr | hr
      ·exact hR.data r hr
      ·rw [List.mem_singleton.1 hr]; exact hv'
    have hA2 : absR (R ++ [⟨x.p, x.d, .slice av2 x.x.length cv2, x.x, Lv49, rfl, by omega⟩]) = (l.take (i + 1)).map triI := by
     have hobt := List.getElem?_eq_some_iff.1 hxi
     obtain ⟨h1, h2⟩ := hobt
     rw [← List.take_append_getElem h1, h2, List.map_append, ← hA, absR, absR, List.map_append]
     rfl
    replace hs := Step.tail (hs.perm perm_r4)
    rw [List.append_nil] at hs
    have hobt : ∃ R2, R ++ [⟨x.p, x.d, .slice av2 x.x.length cv2, x.x, Lv49, rfl, by omega⟩] = R2 := ⟨_, rfl⟩
    obtain ⟨R2, hRR⟩ := hobt
    have e3 : R2.flatMap (·.Lv) = R.flatMap (·.Lv) ++ Lv49 := by rw [← hRR]; exact flatR
    rw [hRR] at hR2 hA2
    rw [← e3] at hs
    refine cR <| wm rfl <| wV rfl (run_add (c := ((i + 1 : Nat) : Int)) rfl rfl (by omega) (by omega)) <| wa rfl <| wZ ?_
    refine (show _ ∧ _ from ⟨rfl, _, ?_, i + 1, v52, R2, Lv52, by omega, rfl, hA2, hR2, hs, e1'.symm, rfl, rfl, trivial⟩)
    omega
   ·cases h
  ·have hobt := hf.chain
   obtain ⟨g, rfl⟩ := hobt
   refine cQ <| cQ <| cR <| wm rfl <| wm rfl <| wV rfl (run_lenSl underlying22 rfl) <| wV rfl (run_bF (run_lss rfl rfl) (by omega)) <| wZ ?_
   refine cC rfl (fun h => ?_) (fun h => ?_)
   ·cases h
   refine CW.exit ?_
   refine ⟨rfl, u, R, Lu, ?_, hR, hs, rfl, trivial⟩
   rw [hA, List.take_of_length_le (by omega)]
 clear hs hf
 rintro f w ⟨u, R, Lu, hA, hR, hs, hf⟩
 have hobt := hf.chain
 obtain ⟨g, rfl⟩ := hobt
 have hRl : R.length = l.length := by
  have := congrArg List.length hA
  rw [absR, List.length_map, List.length_map] at this
  exact this
 have hRx : ∀ r ∈ R, r.x.length ≤ 1048576 := fun r hr => by
  have h1 : (r.p, r.d, r.x) ∈ absR R := List.mem_map.2 ⟨r, hr, rfl⟩
  rw [hA] at h1
  have hobt := List.mem_map.1 h1
  obtain ⟨x, hx, he⟩ := hobt
  have h2 : x.x = r.x := congrArg (fun t : Tri => t.2.2) he
  rw [← h2]
  exact (hcl x hx).2.2.2
 have hRs : (R.map fun r => r.x.length).sum = sumL l := by
  have h1 : (R.map fun r => r.x.length) = (absR R).map (·.2.2.length) := by rw [absR, List.map_map]; rfl
  rw [h1, hA, List.map_map]
  rfl
 have hby := fun {L w} (hs : Step [] ((bg, rfsO u qa qb qc) :: (Lu ++ L)) w0 w) => rbytes_spec hR hs.hd (fun p hp => hs.has p (List.mem_cons_of_mem _ (List.mem_append_left _ hp))) hRx (by omega)
 simp only [hRs] at hby
 have hobt := hR.own.form
 obtain ⟨au, cu, hu⟩ := hobt
 have hlc : ∀ {L : List (Nat × Obj)} {w : World}, Step [] ((bg, rfsO u qa qb qc) :: L) w0 w → w.cell? ⟨bg, 0, none⟩ = some (.slice au l.length cu) := fun hs => by
  rw [cell_blk hs.hd, ← hRl, ← hu]
  rfl
 by_cases h1 : qa < (sumL l : Int)
 ·have hne : newE a b l = 96 := by rw [hnE, if_pos h1]
  refine cQ <| cQ ?_
  refine CW.quiet mixedP (by kernel_rfl) hs ?_
  refine qm rfl ?_
  refine QL.enter rfl (fun w => run_call en25 rfl rfl) (fun w hs => hby hs) ?_
  refine qm rfl <| qn rfl rfl <| qV rfl (fun w hs => run_field (o' := 2) underlying34 rfl ty24 rfl rfl rfl) <| qV rfl (fun w hs => run_field (o' := 0) underlying24 rfl ty3 rfl rfl rfl) <| qV rfl (fun w hs => run_load1 ty3 rfl (hs.c0 (v := .int .i64 qa) rfl)) <| qV rfl (fun w hs => run_bT (run_gtr rfl rfl) (by exact h1)) ?_
  refine QL.nil (fun w hs => ?_)
  refine cC rfl (fun h => ?_) (fun h => ?_)
  ·refine cQ <| cR <| wa rfl <| wa rfl <| wZ ?_
   refine CW.ret ?_
   refine fin_ret2 rfl ?_
   exact .inl ⟨by rw [hne]; decide, by rw [hne]; rfl, hs.clear⟩
  ·cases h
 by_cases h2 : qb < (l.length : Int)
 ·have hne : newE a b l = 97 := by rw [hnE, if_neg h1, if_pos h2]
  refine cQ <| cQ ?_
  refine CW.quiet mixedP (by kernel_rfl) hs ?_
  refine qm rfl ?_
  refine QL.enter rfl (fun w => run_call en25 rfl rfl) (fun w hs => hby hs) ?_
  refine qm rfl <| qn rfl rfl <| qV rfl (fun w hs => run_field (o' := 2) underlying34 rfl ty24 rfl rfl rfl) <| qV rfl (fun w hs => run_field (o' := 0) underlying24 rfl ty3 rfl rfl rfl) <| qV rfl (fun w hs => run_load1 ty3 rfl (hs.c0 (v := .int .i64 qa) rfl)) <| qV rfl (fun w hs => run_bF (run_gtr rfl rfl) (by exact h1)) ?_
  refine QL.nil (fun w hs => ?_)
  refine cC rfl (fun h => ?_) (fun h => ?_)
  ·cases h
  repeat (first | refine cQ ?_ | refine cK ?_)
  refine CW.quiet mixedP (by kernel_rfl) hs ?_
  refine qm rfl <| qn rfl rfl <| qV rfl (fun w hs => run_field (o' := 0) underlying34 rfl ty22 rfl rfl rfl) <| qV rfl (fun w hs => run_load1 ty22 rfl (hlc hs)) <| qV rfl (fun w hs => run_lenSl underlying22 rfl) <| qm rfl <| qn rfl rfl <| qV rfl (fun w hs => run_field (o' := 2) underlying34 rfl ty24 rfl rfl rfl) <| qV rfl (fun w hs => run_field (o' := 1) underlying24 rfl ty3 rfl rfl rfl) <| qV rfl (fun w hs => run_load1 ty3 rfl (hs.c0 (v := .int .i64 qb) rfl)) <| qV rfl (fun w hs => run_bT (run_gtr rfl rfl) (by exact h2)) ?_
  refine QL.nil (fun w hs => ?_)
  refine cC rfl (fun h => ?_) (fun h => ?_)
  ·refine cQ <| cR <| wa rfl <| wa rfl <| wZ ?_
   refine CW.ret ?_
   refine fin_ret2 rfl ?_
   exact .inl ⟨by rw [hne]; decide, by rw [hne]; rfl, hs.clear⟩
  ·cases h
 have hne : newE a b l = 0 := by rw [hnE, if_neg h1, if_neg h2]
 refine cQ <| cQ ?_
 refine CW.quiet mixedP (by kernel_rfl) hs ?_
 refine qm rfl ?_
 refine QL.enter rfl (fun w => run_call en25 rfl rfl) (fun w hs => hby hs) ?_
 refine qm rfl <| qn rfl rfl <| qV rfl (fun w hs => run_field (o' := 2) underlying34 rfl ty24 rfl rfl rfl) <| qV rfl (fun w hs => run_field (o' := 0) underlying24 rfl ty3 rfl rfl rfl) <| qV rfl (fun w hs => run_load1 ty3 rfl (hs.c0 (v := .int .i64 qa) rfl)) <| qV rfl (fun w hs => run_bF (run_gtr rfl rfl) (by exact h1)) ?_
 refine QL.nil (fun w hs => ?_)
 refine cC rfl (fun h => ?_) (fun h => ?_)
 ·cases h
 repeat (first | refine cQ ?_ | refine cK ?_)
 refine CW.quiet mixedP (by kernel_rfl) hs ?_
 refine qm rfl <| qn rfl rfl <| qV rfl (fun w hs => run_field (o' := 0) underlying34 rfl ty22 rfl rfl rfl) <| qV rfl (fun w hs => run_load1 ty22 rfl (hlc hs)) <| qV rfl (fun w hs => run_lenSl underlying22 rfl) <| qm rfl <| qn rfl rfl <| qV rfl (fun w hs => run_field (o' := 2) underlying34 rfl ty24 rfl rfl rfl) <| qV rfl (fun w hs => run_field (o' := 1) underlying24 rfl ty3 rfl rfl rfl) <| qV rfl (fun w hs => run_load1 ty3 rfl (hs.c0 (v := .int .i64 qb) rfl)) <| qV rfl (fun w hs => run_bF (run_gtr rfl rfl) (by exact h2)) ?_
 refine QL.nil (fun w hs => ?_)
 refine cC rfl (fun h => ?_) (fun h => ?_)
 ·cases h
 repeat (first | refine cQ ?_ | refine cK ?_)
 refine cR <| wm rfl <| wa rfl <| wa rfl <| wZ ?_
 refine CW.ret ?_
 refine fin_ret2 rfl ?_
 refine .inr ⟨hne, bg, u, R, Lu, rfl, hA, hR, ?_⟩
 rw [hqa, hqb, hqc]
 exact hs
end Go.Gx
/-! Vn8 -/
namespace Go.Gx
open Go.Proofs Go.Proofs.Tryz Go.RowKit
set_option maxRecDepth 100000
theorem bump_keys (s : VS) (j : Nat) : (s.bump j).D.map (·.1) = s.D.map (·.1) := by
 unfold VS.bump
 apply List.ext_getElem?
 intro i
 rw [List.getElem?_map, List.getElem?_map, List.getElem?_modify]
 cases s.D[i]? with
 | none => rfl
 | some e =>
  by_cases h : j = i <;> simp [h]
theorem addIt_items {s : VS} {prev : Option (List UInt8)} {k : Nat} {x : It} {D' : DL} (v : NInv s prev k) (h : chkStep s.D prev x = some D') : ((s.addIt x).itemsU).Perm (triI x :: s.itemsU) := by
 have hobt := v.step h
 obtain ⟨⟨j, hj, _, _⟩, _, _, _, _, hdx⟩ := hobt
 have hobt := chk_inv h
 obtain ⟨he, _⟩ := hobt
 have hne := (split_ok he).2
 have hb := bump_keys s j
 unfold VS.addIt
 by_cases hd : x.d = true
 ·have e : s.addDir x.p = { s.bump j with D := (s.bump j).D ++ [(x.p, 0)] } := by unfold VS.addDir; rw [hj]
  rw [if_pos hd, e]
  unfold VS.itemsU
  refine (show List.Perm ((((((s.bump j).D ++ ([(x.p, 0)] : DL)).map (fun e : List UInt8 × Nat => e.1)).filter (fun p : List UInt8 => decide (p ≠ []))).map (fun p : List UInt8 => ((p, true, []) : Tri))) ++ s.F.map (fun e : List UInt8 × List UInt8 => ((e.1, false, e.2) : Tri))) _ from ?_)
  rw [List.map_append, hb, List.filter_append, List.map_append, List.append_assoc]
  have e2 : (([(x.p, 0)] : DL).map (·.1)).filter (fun p => decide (p ≠ [])) = [x.p] := by simp [hne]
  rw [e2]
  have e3 : triI x = (x.p, true, []) := by unfold triI; rw [hd, hdx hd]
  rw [e3]
  exact List.perm_middle
 ·have hd2 : x.d = false := by simpa using hd
  have e : s.addFile x.p x.x = { s.bump j with F := s.F ++ [(x.p, x.x)], by_ := s.by_ + x.x.length } := by unfold VS.addFile; rw [hj]
  rw [if_neg hd, e]
  unfold VS.itemsU
  refine (show List.Perm (((((s.bump j).D.map (·.1)).filter (fun p : List UInt8 => decide (p ≠ []))).map (fun p : List UInt8 => ((p, true, []) : Tri))) ++ (s.F ++ [(x.p, x.x)]).map (fun e : List UInt8 × List UInt8 => ((e.1, false, e.2) : Tri))) _ from ?_)
  rw [hb, List.map_append, ← List.append_assoc]
  have e3 : triI x = (x.p, false, x.x) := by unfold triI; rw [hd2]
  rw [e3]
  exact List.perm_append_comm
theorem fold_items : ∀ (l : List It) (s : VS) (prev : Option (List UInt8)) (k : Nat) (D' : DL), chkGo s.D prev l = some D' → NInv s prev k → ((l.foldl VS.addIt s).itemsU).Perm (l.map triI ++ s.itemsU)
 | [], s, prev, k, D', _, _ => List.Perm.refl _
 | x :: l, s, prev, k, D', h, v => by
  rw [chkGo] at h
  cases hc : chkStep s.D prev x with
  | none => rw [hc] at h; cases h
  | some D1 =>
   rw [hc] at h
   have hobt := v.step hc
   obtain ⟨_, h1, h2, _⟩ := hobt
   have h : chkGo D1 (some x.p) l = some D' := h
   rw [← h1] at h
   rw [List.foldl_cons, List.map_cons, List.cons_append]
   exact (fold_items l (s.addIt x) (some x.p) (k + 1) D' h h2).trans (((addIt_items v hc).append_left _).trans List.perm_middle)
theorem chk_sorted : ∀ (l : List It) {D : DL} {prev : Option (List UInt8)} {D' : DL}, chkGo D prev l = some D' → (∀ q, prev = some q → ∀ y ∈ l, lessP q y.p = true) ∧ l.Pairwise fun a b => lessP a.p b.p = true
 | [], D, prev, D', _ => ⟨fun q _ y hy => (by cases hy), List.Pairwise.nil⟩
 | x :: l, D, prev, D', h => by
  rw [chkGo] at h
  cases hc : chkStep D prev x with
  | none => rw [hc] at h; cases h
  | some D1 =>
   rw [hc] at h
   have hobt := chk_inv hc
   obtain ⟨_, n, _, _, hl, _⟩ := hobt
   have hobt := chk_sorted l (show chkGo D1 (some x.p) l = some D' from h)
   obtain ⟨i1, i2⟩ := hobt
   refine ⟨fun q hq y hy => ?_, List.pairwise_cons.2 ⟨fun y hy => i1 x.p rfl y hy, i2⟩⟩
   rcases List.mem_cons.1 hy with rfl | hy
   ·exact hl q hq
   ·exact lessP_trans (hl q hq) (i1 x.p rfl y hy)
theorem newE_chk {a b : Int} {l : List It} (h : newE a b l = 0) : chkE l = 0 := by
 unfold newE at h
 split at h
 ·rename_i h1; exact absurd h h1
 ·rename_i h1; exact Classical.byContradiction h1
theorem new_itemsL {a b c : Int} {l : List It} (h : newE a b l = 0) : (newS a b c l).itemsL = l.map triI := by
 have hobt := chkE_go (newE_chk h)
 obtain ⟨h1, ⟨D, hD⟩, h3⟩ := hobt
 have hp := fold_items l (newV a b c) none 0 D hD (newV_inv a b c)
 have h0 : (newV a b c).itemsU = [] := rfl
 rw [h0, List.append_nil] at hp
 have hso : SortT (l.map triI) := by
  unfold SortT
  rw [List.pairwise_map]
  exact (chk_sorted l hD).2
 exact sorted_eq (itemsL_sorted (items_nodup (new_tree (c := c) h))) hso ((itemsL_perm _).trans hp)
/-- An item that was lent, as an item. -/
def reIt (r : LIt) : It := ⟨r.it.p, r.it.d, r.v, r.it.x⟩
theorem re_chk : ∀ (rs : List LIt) (D : DL) (prev : Option (List UInt8)), chkGo D prev (rs.map reIt) = chkGo D prev (rs.map (·.it))
 | [], _, _ => rfl
 | r :: rs, D, prev => by
  rw [List.map_cons, List.map_cons, chkGo, chkGo]
  have e : chkStep D prev (reIt r) = chkStep D prev r.it := rfl
  rw [e]
  cases chkStep D prev r.it with
  | none => rfl
  | some D1 => exact re_chk rs D1 _
theorem re_sum (rs : List LIt) : sumL (rs.map reIt) = sumL (rs.map (·.it)) := by
 unfold sumL
 rw [List.map_map, List.map_map]
 rfl
theorem re_newE (a b : Int) (rs : List LIt) : newE a b (rs.map reIt) = newE a b (rs.map (·.it)) := by
 have h1 : chkE (rs.map reIt) = chkE (rs.map (·.it)) := by
  unfold chkE
  rw [re_chk, re_sum, List.length_map, List.length_map]
 unfold newE
 rw [h1, re_sum, List.length_map, List.length_map]
theorem re_fold : ∀ (rs : List LIt) (s : VS), (rs.map reIt).foldl VS.addIt s = (rs.map (·.it)).foldl VS.addIt s
 | [], _ => rfl
 | r :: rs, s => re_fold rs (s.addIt r.it)
theorem re_newS (a b c : Int) (rs : List LIt) : newS a b c (rs.map reIt) = newS a b c (rs.map (·.it)) := re_fold rs _
theorem re_its (rs : List LIt) : its (rs.map reIt) = encL rs := by
 unfold its encL
 rw [List.flatMap_map]
 rfl
end Go.Gx
/-! Vw5 -/
namespace Go.Gx
open Go.Proofs Go.Proofs.Tryz Go.RowKit
set_option maxRecDepth 100000
theorem rows_cell {w0 : World} {R : List RowI} {u : Value} {n : Nat} {Lu : List (Nat × Obj)} (hu : OwnSl 56 3 u n (rowsI R) Lu) (hw : ∀ p ∈ Lu, w0.heap[p.1]? = some p.2) (h0 : 0 < n) : ∃ b c, u = .slice (some ⟨b, 0, none⟩) n c ∧ ∀ (j : Nat) q, R[j]? = some q → At w0 b (0 + j * 3) q.enc := by
 have hobt := hu.some1 h0
 obtain ⟨b, c, more, hq, hL, hc⟩ := hobt
 have hb : w0.heap[b]? = some (blk 56 (rowsI R ++ more)) := hw (b, blk 56 (rowsI R ++ more)) (by rw [hL]; simp)
 exact ⟨b, c, hq, fun j q hj => rowsI_blk (b := b) (T := 56) (more := more) (A := [(b, blk 56 (rowsI R ++ more))]) (Step.start (L := [(b, blk 56 (rowsI R ++ more))]) (w := w0) (by simp) (fun p hp => by rw [List.mem_singleton.1 hp]; exact hb)) (by simp) hj⟩
set_option maxHeartbeats 4000000 in
theorem same_spec {u u' : Value} {R R' : List RowI} {n : Nat} {Lu Lu' : List (Nat × Obj)} (w0 : World) (hn : R.length = n) (hn' : R'.length = n) (hnl : n ≤ 131072) (he : absR R = absR R') (hu : OwnSl 56 3 u n (rowsI R) Lu) (hu' : OwnSl 56 3 u' n (rowsI R') Lu') (hw : ∀ p ∈ Lu, w0.heap[p.1]? = some p.2) (hw' : ∀ p ∈ Lu', w0.heap[p.1]? = some p.2) (hd : ∀ r ∈ R, Sl w0 1 r.v r.x.length (u8s r.x)) (hd' : ∀ r ∈ R', Sl w0 1 r.v r.x.length (u8s r.x)) (hx : ∀ r ∈ R, r.x.length ≤ 1048576) : Calls Tryz.prog 7 #[u, u'] w0 (Ret0 (.bool true) w0) := by
 have hs : Step [] [] w0 w0 := Step.refl w0
 have hobt := hu.form
 obtain ⟨a1, c1, rfl⟩ := hobt
 have hobt := hu'.form
 obtain ⟨a2, c2, rfl⟩ := hobt
 by_cases h0 : n = 0
 ·subst h0
  refine calls (n := 56) Tryz.func7 rfl rfl rfl ?_
  refine cQ <| cR <| wa rfl <| wZ <| cQ <| cQ <| cR <| wm rfl <| wV rfl (run_lenSl underlying22 rfl) <| wm rfl <| wV rfl (run_lenSl underlying22 rfl) <| wV rfl (run_bF (run_neq rfl rfl) (by exact fun h => h rfl)) <| wZ ?_
  refine cC rfl (fun h => ?_) (fun h => ?_)
  ·cases h
  repeat (first | refine cQ ?_ | refine cK ?_)
  refine cR <| wa rfl <| wZ <| CW.block ?_
  refine CW.loop (fun z f w => z = 0 ∧ Step [] [] w0 w ∧ Holds f [(0, .slice a1 0 c1), (5, .int .i64 0)]) (m := 0) ?_ ?_
  ·exact ⟨rfl, hs, rfl, rfl, trivial⟩
  clear hs
  rintro z f w ⟨rfl, hs, hf⟩
  have hobt := hf.chain
  obtain ⟨g, rfl⟩ := hobt
  refine cQ <| cQ <| cR <| wm rfl <| wm rfl <| wV rfl (run_lenSl underlying22 rfl) <| wV rfl (run_bF (run_lss rfl rfl) (by omega)) <| wZ ?_
  refine cC rfl (fun h => ?_) (fun h => ?_)
  ·cases h
  repeat (first | refine cQ ?_ | refine CW.exit ?_)
  refine cR <| wa rfl <| wZ ?_
  refine CW.ret ?_
  refine fin_ret1 rfl ?_
  exact ⟨rfl, hs⟩
 have hobt := rows_cell hu hw (by omega)
 obtain ⟨b1, d1, hq1, hr1⟩ := hobt
 have hobt := rows_cell hu' hw' (by omega)
 obtain ⟨b2, d2, hq2, hr2⟩ := hobt
 injection hq1 with hq1 hq3 hq4
 injection hq2 with hq2 hq5 hq6
 subst hq1
 subst hq2
 refine calls (n := 56) Tryz.func7 rfl rfl rfl ?_
 refine cQ <| cR <| wa rfl <| wZ <| cQ <| cQ <| cR <| wm rfl <| wV rfl (run_lenSl underlying22 rfl) <| wm rfl <| wV rfl (run_lenSl underlying22 rfl) <| wV rfl (run_bF (run_neq rfl rfl) (by exact fun h => h rfl)) <| wZ ?_
 refine cC rfl (fun h => ?_) (fun h => ?_)
 ·cases h
 repeat (first | refine cQ ?_ | refine cK ?_)
 refine cR <| wa rfl <| wZ <| CW.block ?_
 refine CW.loop (fun z f w => ∃ i : Nat, i ≤ n ∧ z = n - i ∧ Step [] [] w0 w ∧ Holds f [(0, .slice (some ⟨b1, 0, none⟩) n c1), (1, .slice (some ⟨b2, 0, none⟩) n c2), (5, .int .i64 i)]) (m := n) ?_ ?_
 ·exact ⟨0, by omega, by omega, hs, rfl, rfl, rfl, trivial⟩
 clear hs
 rintro z f w ⟨i, hi, rfl, hs, hf⟩
 have hobt := hf.chain
 obtain ⟨g, rfl⟩ := hobt
 by_cases hlt : i < n
 ·have hobt : ∃ r, R[i]? = some r := ⟨_, List.getElem?_eq_getElem (by omega)⟩
  obtain ⟨r, hr⟩ := hobt
  have hobt : ∃ r, R'[i]? = some r := ⟨_, List.getElem?_eq_getElem (by omega)⟩
  obtain ⟨r', hr'⟩ := hobt
  have hy : (r.p, r.d, r.x) = (r'.p, r'.d, r'.x) := by
   have h1 := congrArg (·[i]?) he
   simpa [absR, List.getElem?_map, hr, hr'] using h1
  simp only [Prod.mk.injEq] at hy
  obtain ⟨hyp, hyd, hyx⟩ := hy
  have c1' := fun {L w} (hs : Step [] L w0 w) => (hr1 i r hr).step hs (by simp)
  have c2' := fun {L w} (hs : Step [] L w0 w) => (hr2 i r' hr').step hs (by simp)
  have s1 := hd r (List.mem_of_getElem? hr)
  have s2 := hd' r' (List.mem_of_getElem? hr')
  have hxl := hx r (List.mem_of_getElem? hr)
  have hxl' : r'.x.length ≤ 1048576 := by rw [← hyx]; exact hxl
  have hf1 := s1.form
  have hf2 := s2.form
  obtain ⟨a3, c3, hv3⟩ := hf1
  obtain ⟨a4, c4, hv4⟩ := hf2
  have e3 : r.enc[2]? = some (.slice a3 r.x.length c3) := by show some r.v = _; rw [hv3]
  have e4 : r'.enc[2]? = some (.slice a4 r'.x.length c4) := by show some r'.v = _; rw [hv4]
  rw [hv3] at s1
  rw [hv4] at s2
  have hdb : r.d = true ∨ r.d = false := by cases r.d <;> simp
  rcases hdb with hdd | hdd
  ·have e1 : r.enc[1]? = some (.bool true) := by show some (Value.bool r.d) = _; rw [hdd]
   have e2 : r'.enc[1]? = some (.bool true) := by show some (Value.bool r'.d) = _; rw [← hyd, hdd]
   refine cQ <| cQ <| cR <| wm rfl <| wm rfl <| wV rfl (run_lenSl underlying22 rfl) <| wV rfl (run_bT (run_lss rfl rfl) (by omega)) <| wZ ?_
   refine cC rfl (fun h => ?_) (fun h => ?_)
   ·repeat (first | refine cQ ?_ | refine CW.block ?_ | refine cK ?_)
    refine CW.quiet mixedP (by kernel_rfl) hs ?_
    refine qm rfl <| qm rfl <| qV rfl (fun w hs => run_ixSlN underlying22 ty56 rfl rfl (by omega)) <| qV rfl (fun w hs => run_field (o' := 0) underlying56 rfl ty9 rfl rfl rfl) <| qV rfl (fun w hs => run_load1 ty9 rfl ((c1' hs).cell (j := 0) (v := str r.p) rfl)) <| qm rfl <| qm rfl <| qV rfl (fun w hs => run_ixSlN underlying22 ty56 rfl rfl (by omega)) <| qV rfl (fun w hs => run_field (o' := 0) underlying56 rfl ty9 rfl rfl rfl) <| qV rfl (fun w hs => run_load1 ty9 rfl ((c2' hs).cell (j := 0) (v := str r'.p) rfl)) <| qV rfl (fun w hs => run_bF (run_strNe rfl rfl) (by exact fun h => h hyp)) <| qm rfl <| QL.yes rfl rfl rfl <| qm rfl ?_
    refine QL.yes rfl rfl rfl <| qm rfl ?_
    refine QL.yes rfl rfl rfl ?_; (first | refine qV rfl (fun w hs => run_ixSlN underlying22 ty56 rfl rfl (by omega)) ?_ | refine qV rfl (fun w hs => run_ixSl underlying22 ty56 rfl rfl (by omega)) ?_)
    refine QL.yes rfl rfl rfl <| qV rfl (fun w hs => run_field (o' := 1) underlying56 rfl ty4 rfl rfl rfl) <| QL.yes rfl rfl rfl <| qV rfl (fun w hs => run_load1 ty4 rfl ((c1' hs).cell (j := 1) e1)) <| QL.yes rfl rfl rfl <| qm rfl <| QL.yes rfl rfl rfl <| qm rfl ?_
    refine QL.yes rfl rfl rfl ?_; (first | refine qV rfl (fun w hs => run_ixSlN underlying22 ty56 rfl rfl (by omega)) ?_ | refine qV rfl (fun w hs => run_ixSl underlying22 ty56 rfl rfl (by omega)) ?_)
    refine QL.yes rfl rfl rfl <| qV rfl (fun w hs => run_field (o' := 1) underlying56 rfl ty4 rfl rfl rfl) <| QL.yes rfl rfl rfl <| qV rfl (fun w hs => run_load1 ty4 rfl ((c2' hs).cell (j := 1) e2)) <| QL.yes rfl rfl rfl <| qV rfl (fun w hs => run_neqB underlying4 rfl rfl) <| qV rfl (fun w hs => run_pickF rfl) <| qm rfl <| QL.yes rfl rfl rfl <| qm rfl <| QL.yes rfl rfl rfl <| qm rfl ?_
    refine QL.yes rfl rfl rfl ?_; (first | refine qV rfl (fun w hs => run_ixSlN underlying22 ty56 rfl rfl (by omega)) ?_ | refine qV rfl (fun w hs => run_ixSl underlying22 ty56 rfl rfl (by omega)) ?_)
    refine QL.yes rfl rfl rfl <| qV rfl (fun w hs => run_field (o' := 2) underlying56 rfl ty38 rfl rfl rfl) <| QL.yes rfl rfl rfl <| qV rfl (fun w hs => run_load1 ty38 rfl ((c1' hs).cell (j := 2) e3)) <| QL.yes rfl rfl rfl <| qV rfl (fun w hs => run_toString underlying38 underlying9 underlying5 rfl (s1.step0 hs)) <| QL.yes rfl rfl rfl <| qm rfl <| QL.yes rfl rfl rfl <| qm rfl ?_
    refine QL.yes rfl rfl rfl ?_; (first | refine qV rfl (fun w hs => run_ixSlN underlying22 ty56 rfl rfl (by omega)) ?_ | refine qV rfl (fun w hs => run_ixSl underlying22 ty56 rfl rfl (by omega)) ?_)
    refine QL.yes rfl rfl rfl <| qV rfl (fun w hs => run_field (o' := 2) underlying56 rfl ty38 rfl rfl rfl) <| QL.yes rfl rfl rfl <| qV rfl (fun w hs => run_load1 ty38 rfl ((c2' hs).cell (j := 2) e4)) <| QL.yes rfl rfl rfl <| qV rfl (fun w hs => run_toString underlying38 underlying9 underlying5 rfl (s2.step0 hs)) <| QL.yes rfl rfl rfl <| qV rfl (fun w hs => run_bF (run_strNe rfl rfl) (by exact fun h => h hyx)) <| qV rfl (fun w hs => run_pickF rfl) ?_
    refine QL.nil (fun w hs => ?_)
    refine cC rfl (fun h2 => ?_) (fun h2 => ?_)
    ·cases h2
    refine cK <| cR <| wm rfl <| wV rfl (run_add (c := ((i + 1 : Nat) : Int)) rfl rfl (by omega) (by omega)) <| wa rfl <| wZ ?_
    refine (show _ ∧ _ from ⟨rfl, _, ?_, i + 1, by omega, rfl, hs, rfl, rfl, rfl, trivial⟩)
    omega
   ·cases h
  ·have e1 : r.enc[1]? = some (.bool false) := by show some (Value.bool r.d) = _; rw [hdd]
   have e2 : r'.enc[1]? = some (.bool false) := by show some (Value.bool r'.d) = _; rw [← hyd, hdd]
   refine cQ <| cQ <| cR <| wm rfl <| wm rfl <| wV rfl (run_lenSl underlying22 rfl) <| wV rfl (run_bT (run_lss rfl rfl) (by omega)) <| wZ ?_
   refine cC rfl (fun h => ?_) (fun h => ?_)
   ·repeat (first | refine cQ ?_ | refine CW.block ?_ | refine cK ?_)
    refine CW.quiet mixedP (by kernel_rfl) hs ?_
    refine qm rfl <| qm rfl <| qV rfl (fun w hs => run_ixSlN underlying22 ty56 rfl rfl (by omega)) <| qV rfl (fun w hs => run_field (o' := 0) underlying56 rfl ty9 rfl rfl rfl) <| qV rfl (fun w hs => run_load1 ty9 rfl ((c1' hs).cell (j := 0) (v := str r.p) rfl)) <| qm rfl <| qm rfl <| qV rfl (fun w hs => run_ixSlN underlying22 ty56 rfl rfl (by omega)) <| qV rfl (fun w hs => run_field (o' := 0) underlying56 rfl ty9 rfl rfl rfl) <| qV rfl (fun w hs => run_load1 ty9 rfl ((c2' hs).cell (j := 0) (v := str r'.p) rfl)) <| qV rfl (fun w hs => run_bF (run_strNe rfl rfl) (by exact fun h => h hyp)) <| qm rfl <| QL.yes rfl rfl rfl <| qm rfl ?_
    refine QL.yes rfl rfl rfl <| qm rfl ?_
    refine QL.yes rfl rfl rfl ?_; (first | refine qV rfl (fun w hs => run_ixSlN underlying22 ty56 rfl rfl (by omega)) ?_ | refine qV rfl (fun w hs => run_ixSl underlying22 ty56 rfl rfl (by omega)) ?_)
    refine QL.yes rfl rfl rfl <| qV rfl (fun w hs => run_field (o' := 1) underlying56 rfl ty4 rfl rfl rfl) <| QL.yes rfl rfl rfl <| qV rfl (fun w hs => run_load1 ty4 rfl ((c1' hs).cell (j := 1) e1)) <| QL.yes rfl rfl rfl <| qm rfl <| QL.yes rfl rfl rfl <| qm rfl ?_
    refine QL.yes rfl rfl rfl ?_; (first | refine qV rfl (fun w hs => run_ixSlN underlying22 ty56 rfl rfl (by omega)) ?_ | refine qV rfl (fun w hs => run_ixSl underlying22 ty56 rfl rfl (by omega)) ?_)
    refine QL.yes rfl rfl rfl <| qV rfl (fun w hs => run_field (o' := 1) underlying56 rfl ty4 rfl rfl rfl) <| QL.yes rfl rfl rfl <| qV rfl (fun w hs => run_load1 ty4 rfl ((c2' hs).cell (j := 1) e2)) <| QL.yes rfl rfl rfl <| qV rfl (fun w hs => run_neqB underlying4 rfl rfl) <| qV rfl (fun w hs => run_pickF rfl) <| qm rfl <| QL.yes rfl rfl rfl <| qm rfl <| QL.yes rfl rfl rfl <| qm rfl ?_
    refine QL.yes rfl rfl rfl ?_; (first | refine qV rfl (fun w hs => run_ixSlN underlying22 ty56 rfl rfl (by omega)) ?_ | refine qV rfl (fun w hs => run_ixSl underlying22 ty56 rfl rfl (by omega)) ?_)
    refine QL.yes rfl rfl rfl <| qV rfl (fun w hs => run_field (o' := 2) underlying56 rfl ty38 rfl rfl rfl) <| QL.yes rfl rfl rfl <| qV rfl (fun w hs => run_load1 ty38 rfl ((c1' hs).cell (j := 2) e3)) <| QL.yes rfl rfl rfl <| qV rfl (fun w hs => run_toString underlying38 underlying9 underlying5 rfl (s1.step0 hs)) <| QL.yes rfl rfl rfl <| qm rfl <| QL.yes rfl rfl rfl <| qm rfl ?_
    refine QL.yes rfl rfl rfl ?_; (first | refine qV rfl (fun w hs => run_ixSlN underlying22 ty56 rfl rfl (by omega)) ?_ | refine qV rfl (fun w hs => run_ixSl underlying22 ty56 rfl rfl (by omega)) ?_)
    refine QL.yes rfl rfl rfl <| qV rfl (fun w hs => run_field (o' := 2) underlying56 rfl ty38 rfl rfl rfl) <| QL.yes rfl rfl rfl <| qV rfl (fun w hs => run_load1 ty38 rfl ((c2' hs).cell (j := 2) e4)) <| QL.yes rfl rfl rfl <| qV rfl (fun w hs => run_toString underlying38 underlying9 underlying5 rfl (s2.step0 hs)) <| QL.yes rfl rfl rfl <| qV rfl (fun w hs => run_bF (run_strNe rfl rfl) (by exact fun h => h hyx)) <| qV rfl (fun w hs => run_pickF rfl) ?_
    refine QL.nil (fun w hs => ?_)
    refine cC rfl (fun h2 => ?_) (fun h2 => ?_)
    ·cases h2
    refine cK <| cR <| wm rfl <| wV rfl (run_add (c := ((i + 1 : Nat) : Int)) rfl rfl (by omega) (by omega)) <| wa rfl <| wZ ?_
    refine (show _ ∧ _ from ⟨rfl, _, ?_, i + 1, by omega, rfl, hs, rfl, rfl, rfl, trivial⟩)
    omega
   ·cases h
 ·refine cQ <| cQ <| cR <| wm rfl <| wm rfl <| wV rfl (run_lenSl underlying22 rfl) <| wV rfl (run_bF (run_lss rfl rfl) (by omega)) <| wZ ?_
  refine cC rfl (fun h => ?_) (fun h => ?_)
  ·cases h
  repeat (first | refine cQ ?_ | refine CW.exit ?_)
  refine cR <| wa rfl <| wZ ?_
  refine CW.ret ?_
  refine fin_ret1 rfl ?_
  exact ⟨rfl, hs⟩
end Go.Gx
/-! Vn9 -/
namespace Go.Gx
open Go.Proofs Go.Proofs.Tryz Go.RowKit
set_option maxRecDepth 100000
theorem lent_its {w : World} {rs : List LIt} {b c : Nat} {L : List (Nat × Obj)} {S : List Nat} {w0 : World} (hs : Step S (((b, blk 56 (encL rs ++ mksI 3)) :: dataL rs) ++ L) w0 w) (hn : rs.length ≤ 1048576) (hx : ∀ r ∈ rs, r.it.x.length ≤ 1048576 ∧ r.it.p.length ≤ 9223372036854775807) : Its w (.slice (some ⟨b, 0, none⟩) rs.length c) (rs.map reIt) := by
 refine ⟨?_, fun x hx' => ?_, by rw [List.length_map]; omega⟩
 ·rw [re_its, List.length_map]
  exact .mk (encL_len rs) (At.of_blk (hs.has (b, blk 56 (encL rs ++ mksI 3)) (by simp))).left
 ·have hobt := List.mem_map.1 hx'
  obtain ⟨r, hr, rfl⟩ := hobt
  have hobt := hx r hr
  obtain ⟨h1, h2⟩ := hobt
  exact ⟨lentV (hs.has (r.b, LendV r.it.x) (List.mem_append_left _ (List.mem_cons_of_mem _ (List.mem_map.2 ⟨r, hr, rfl⟩)))), h2, (show r.it.x.length ≤ _ by omega)⟩
section
variable {α : Type} {g l m q : List α}
theorem perm_v1 : (g ++ (l ++ (m ++ q))).Perm (m ++ (g ++ (l ++ q))) := by
 classical
 exact List.perm_iff_count.2 fun z => by
  simp only [List.count_append]
  omega
end
def BothP (a b c : Int) (l : List It) (w0 : World) (e : Ending) (w' : World) : Prop :=
 (newE a b l ≠ 0 ∧ e = .returned (.tuple #[.pointer none, .pointer none, .bool true]) ∧ Step [] [] w0 w') ∨
 (newE a b l = 0 ∧ ∃ bf L bg u R Lu, e = .returned (.tuple #[.pointer (some ⟨bf, 0, none⟩), .pointer (some ⟨bg, 0, none⟩), .bool true]) ∧ VRep bf (newS a b c l) L ∧ absR R = l.map triI ∧ RFS bg R u Lu ∧ Step [] (((bg, rfsO u (min a 67108864) (min b 65535) (min c 64)) :: (Lu ++ R.flatMap (·.Lv))) ++ L) w0 w')
set_option maxHeartbeats 8000000 in
theorem both_spec {a b c : Int} {v : Value} {l : List It} (w0 : World) (hg : Gl w0) (ha : i64s a) (hb : i64s b) (hc : i64s c) (hl : Its w0 v l) (hroom : Room v) (hn : l.length ≤ 1048576) (hx : ∀ x ∈ l, x.p.length ≤ 1048576 ∧ x.x.length ≤ 1048576) : Calls Tryz.prog 6 #[v, .agg (quoC a b c).toArray] w0 (BothP a b c l w0) := by
 have hs : Step [] [] w0 w0 := Step.refl w0
 have hobt := hl.sl.form
 obtain ⟨av, cv, rfl⟩ := hobt
 have hits := fun {L w} (hs : Step [] L w0 w) => (⟨hl.sl.step0 hs, fun x hx => ⟨(hl.ok x hx).hb.step0 hs, (hl.ok x hx).lp, (hl.ok x hx).lb⟩, hl.len⟩ : Its w (.slice av l.length cv) l)
 refine calls (n := 43) Tryz.func6 rfl rfl rfl ?_
 refine cQ <| cR ?_
 refine WL.box (cs := (quoC a b c)) rfl rfl rfl hs (fun b3 w hs => ?_)
 refine wa rfl <| wa rfl <| wa rfl <| wZ <| cQ <| cR <| wm rfl ?_
 refine wE rfl (run_call en17 rfl rfl) (lendI_spec _ (hits hs) hn (fun x h => (hx x h).2)) ?_
 rintro e w ⟨bm, rs, hrs, rfl, hq⟩
 refine ⟨_, rfl, ?_⟩
 replace hs := hs.call0 hq
 refine wa rfl <| wZ ?_
 have hrl : rs.length = l.length := by rw [← hrs, List.length_map]
 have hrx : ∀ r ∈ rs, r.it.x.length ≤ 1048576 ∧ r.it.p.length ≤ 9223372036854775807 := fun r hr => by
  have hobt := hx r.it (by rw [← hrs]; exact List.mem_map.2 ⟨r, hr, rfl⟩)
  obtain ⟨h1, h2⟩ := hobt
  exact ⟨h2, by omega⟩
 have hobt : ∃ M, ((bm, blk 56 (encL rs ++ mksI 3)) :: dataL rs) = M := ⟨_, rfl⟩
 obtain ⟨M, hM⟩ := hobt
 replace hs : Step [] (M ++ [(b3, blk 24 (quoC a b c))]) w0 w := by rw [← hM]; exact hs
 have hmine := fun {L w} (hs : Step [] (M ++ L) w0 w) => lent_its (c := l.length + 3) (rs := rs) (b := bm) (by rw [hM]; exact hs) (by omega) hrx
 rw [hrl] at hmine
 have hnew := fun {L w} (hs : Step [] (M ++ L) w0 w) => new_spec w (hg.step hs) ha hb hc (hmine hs)
 have href := fun {L w} (hs : Step [] L w0 w) => rNew_spec w ha hb hc (hits hs) hroom (fun x h => by have := (hx x h).1; omega)
 have hkept := fun {L w} (hs : Step [] (M ++ L) w0 w) => keptI_spec (u := .slice av l.length cv) (b := bm) (S := M.map (·.1)) w hrs hn (fun x h => (hx x h).2) (by rw [hM]; exact hs.own) (fun h => hits (hs.call h))
 have hEe := re_newE a b rs
 have hSe := re_newS a b c rs
 rw [hrs] at hEe hSe
 by_cases hE : newE a b l ≠ 0
 ·have hnb := fun {L w} (hs : Step [] (M ++ L) w0 w) => (hnew hs).mono (R' := fun e w' => ∃ L', e = .returned (.tuple #[.pointer none, .int .i64 (newE a b l)]) ∧ Step [] L' w w') fun e w' ⟨L', h1, h2⟩ => by
   rw [hEe] at h2
   rcases h2 with ⟨_, h3⟩ | ⟨h3, _⟩
   ·exact ⟨L', h3, h1⟩
   ·exact absurd h3 hE
  have hrb := fun {L w} (hs : Step [] L w0 w) => (href hs).mono (R' := fun e w' => e = .returned (.tuple #[.pointer none, .int .i64 (newE a b l)]) ∧ Step [] [] w w') fun e w' h => by
   rcases h with ⟨_, h3, h4⟩ | ⟨h3, _⟩
   ·exact ⟨h3, h4⟩
   ·exact absurd h3 hE
  refine cQ <| cR <| wm rfl <| wV rfl (run_loadN ty24 rfl rfl (At.of_blk (hs.has (b3, blk 24 (quoC a b c)) (by simp)))) ?_
  refine wE rfl (run_call en13 rfl rfl) (hnb hs) ?_
  rintro e w ⟨L1, rfl, hq⟩
  refine ⟨_, rfl, ?_⟩
  replace hs := hs.call0 hq
  refine wm rfl <| wx rfl rfl rfl <| wx rfl rfl rfl <| wa rfl <| wa rfl <| wZ <| cQ <| cR <| wm rfl <| wV rfl (run_loadN ty24 rfl rfl (At.of_blk (hs.has (b3, blk 24 (quoC a b c)) (by simp)))) ?_
  refine wE rfl (run_call en18 rfl rfl) (hrb hs) ?_
  rintro e w ⟨rfl, hq⟩
  refine ⟨_, rfl, ?_⟩
  replace hs := hs.callE hq
  refine wm rfl <| wx rfl rfl rfl <| wx rfl rfl rfl <| wa rfl <| wa rfl <| wZ ?_
  replace hs := hs.perm (perm_v1 (g := []))
  replace hs : Step [] (M ++ (L1 ++ [(b3, blk 24 (quoC a b c))])) w0 w := hs
  refine cQ <| cR <| wm rfl <| wm rfl <| wm rfl <| wm rfl <| wV rfl (run_bT (run_eql rfl rfl) (by rfl)) <| wm rfl <| WL.yes rfl rfl rfl <| wm rfl <| WL.yes rfl rfl rfl <| wV rfl (run_nilNil underlying26 rfl rfl) <| WL.yes rfl rfl rfl <| wm rfl <| WL.yes rfl rfl rfl <| wV rfl (run_nilNil underlying27 rfl rfl) <| WL.yes rfl rfl rfl <| wV rfl (run_bE (run_eqlB underlying4 rfl rfl) (show (true == true) = true from rfl)) <| wV rfl (run_pickT rfl) <| wm rfl <| WL.yes rfl rfl rfl <| wm rfl <| WL.yes rfl rfl rfl <| wm rfl <| WL.yes rfl rfl rfl ?_
  refine wE rfl (run_call en19 rfl rfl) (hkept hs) ?_
  rintro e w ⟨rfl, hq⟩
  refine ⟨_, rfl, ?_⟩
  replace hs := hs.call hq
  refine wV rfl (run_pickT rfl) <| wa rfl <| wa rfl <| wa rfl <| wZ ?_
  refine CW.ret ?_
  refine fin_ret3 rfl ?_
  exact .inl ⟨hE, rfl, hs.clear⟩
 have hE : newE a b l = 0 := Classical.byContradiction hE
 have hno := fun {L w} (hs : Step [] (M ++ L) w0 w) => (hnew hs).mono (R' := fun e w' => ∃ bf L', e = .returned (.tuple #[.pointer (some ⟨bf, 0, none⟩), .int .i64 0]) ∧ VRep bf (newS a b c l) L' ∧ Step [] L' w w') fun e w' ⟨L', h1, h2⟩ => by
  rw [hEe, hSe] at h2
  rcases h2 with ⟨h3, _⟩ | ⟨_, bf, h3, h4⟩
  ·exact absurd hE h3
  ·exact ⟨bf, L', h3, h4, h1⟩
 have hro := fun {L w} (hs : Step [] L w0 w) => (href hs).mono (R' := fun e w' => ∃ bg u R Lu, e = .returned (.tuple #[.pointer (some ⟨bg, 0, none⟩), .int .i64 0]) ∧ absR R = l.map triI ∧ RFS bg R u Lu ∧ Step [] ((bg, rfsO u (min a 67108864) (min b 65535) (min c 64)) :: (Lu ++ R.flatMap (·.Lv))) w w') fun e w' h => by
  rcases h with ⟨h3, _⟩ | ⟨_, h3⟩
  ·exact absurd hE h3
  ·exact h3
 refine cQ <| cR <| wm rfl <| wV rfl (run_loadN ty24 rfl rfl (At.of_blk (hs.has (b3, blk 24 (quoC a b c)) (by simp)))) ?_
 refine wE rfl (run_call en13 rfl rfl) (hno hs) ?_
 rintro e w ⟨bf, L1, rfl, hR1, hq⟩
 refine ⟨_, rfl, ?_⟩
 replace hs := hs.call0 hq
 refine wm rfl <| wx rfl rfl rfl <| wx rfl rfl rfl <| wa rfl <| wa rfl <| wZ <| cQ <| cR <| wm rfl <| wV rfl (run_loadN ty24 rfl rfl (At.of_blk (hs.has (b3, blk 24 (quoC a b c)) (by simp)))) ?_
 refine wE rfl (run_call en18 rfl rfl) (hro hs) ?_
 rintro e w ⟨bg, u, R, Lu, rfl, hA, hR, hq⟩
 refine ⟨_, rfl, ?_⟩
 replace hs := hs.call0 hq
 refine wm rfl <| wx rfl rfl rfl <| wx rfl rfl rfl <| wa rfl <| wa rfl <| wZ ?_
 replace hs := hs.perm perm_v1
 refine cQ <| cR <| wm rfl <| wm rfl <| wm rfl <| wm rfl <| wV rfl (run_bT (run_eql rfl rfl) (by rfl)) <| wm rfl <| WL.yes rfl rfl rfl <| wm rfl <| WL.yes rfl rfl rfl <| wV rfl (run_ptrNil underlying26 rfl rfl) <| WL.yes rfl rfl rfl <| wm rfl <| WL.yes rfl rfl rfl <| wV rfl (run_ptrNil underlying27 rfl rfl) <| WL.yes rfl rfl rfl <| wV rfl (run_bE (run_eqlB underlying4 rfl rfl) (show (false == false) = true from rfl)) <| wV rfl (run_pickT rfl) <| wm rfl <| WL.yes rfl rfl rfl <| wm rfl <| WL.yes rfl rfl rfl <| wm rfl <| WL.yes rfl rfl rfl ?_
 refine wE rfl (run_call en19 rfl rfl) (hkept hs) ?_
 rintro e w ⟨rfl, hq⟩
 refine ⟨_, rfl, ?_⟩
 replace hs := hs.call hq
 refine wV rfl (run_pickT rfl) <| wa rfl <| wa rfl <| wa rfl <| wZ ?_
 refine CW.ret ?_
 refine fin_ret3 rfl ?_
 refine .inr ⟨hE, bf, L1, bg, u, R, Lu, rfl, hR1, hA, hR, ?_⟩
 have h5 : Step [] ((((bg, rfsO u (min a 67108864) (min b 65535) (min c 64)) :: (Lu ++ R.flatMap (·.Lv))) ++ L1) ++ [(b3, blk 24 (quoC a b c))]) w0 w := by
  rw [List.append_assoc]
  exact hs
 exact h5.dropR
end Go.Gx
