/- node.With, node.Without, node.Find. -/
import Derived.Test.YtkdmkjlchlcebaaSl3
import Derived.Test.YtkdmkjlchlcebaaRR3
namespace Go.Gx
open Go.Proofs
set_option linter.unusedVariables false
set_option linter.unusedSimpArgs false
set_option maxRecDepth 100000

theorem insertO_spec {u : Value} {Lu : List (Nat × Obj)} {bx i : Nat} {l : List Ent} {x : Ent} (w0 : World) (hi : i ≤ l.length) (ho : Oks l) (hx : x.ok) (hbb : l.length ≤ 1000000) (hv : OwnSl 48 34 u l.length (rows l) Lu) (hO : Step (Lu.map (·.1)) Lu w0 w0)
    (hxb : w0.heap[bx]? = some (blk 48 x.cells)) (hne : bx ∉ Lu.map (·.1)) :
    Calls Try.prog 58 #[u, .int .i64 i, .slice (some ⟨bx, 0, none⟩) 1 1] w0 fun e w' => ∃ u Lu', e = .returned u ∧ OwnSl 48 34 u (ins l i x).length (rows (ins l i x)) Lu' ∧ Step (Lu.map (·.1)) Lu' w0 w' := by
  have hil : (ins l i x).length = l.length + 1 := by simp [ins]; omega
  rw [hil]
  obtain ⟨hl, ⟨rfl, h0, rfl⟩ | ⟨b, cap, more, rfl, rfl, hcap⟩⟩ := hv
  · obtain rfl : l = [] := List.eq_nil_of_length_eq_zero h0
    obtain rfl : i = 0 := by simpa using hi
    have hs : Step [] [] w0 w0 := hO
    have hxs : ∀ {w : World} {L : List (Nat × Obj)}, Step [] L w0 w → Sl w 34 (.slice (some ⟨bx, 0, none⟩) 1 1) 1 x.cells := fun hs => .mk (by rw [Ent.cells_len hx]) ((At.of_blk hxb).step hs (by simp))
    refine calls (n := 95) Try.func58 rfl rfl rfl ?_
    repeat (first | refine CW.seq ?_ | refine CW.block ?_ | refine CW.skip ?_ | refine CW.exit ?_ | refine CW.condT rfl ?_ | refine CW.condF rfl ?_)
    refine CW.reg ?_
    refine WL.val rfl (run_assign) ?_
    refine WL.nil ?_
    repeat (first | refine CW.seq ?_ | refine CW.block ?_ | refine CW.skip ?_ | refine CW.exit ?_ | refine CW.condT rfl ?_ | refine CW.condF rfl ?_)
    refine CW.reg ?_
    refine WL.val rfl (run_move) ?_
    refine WL.val rfl (run_move) ?_
    refine WL.val rfl (run_sliceNil Try.underlying22 ty48 rfl rfl rfl) ?_
    refine WL.nil ?_
    repeat (first | refine CW.seq ?_ | refine CW.block ?_ | refine CW.skip ?_ | refine CW.exit ?_ | refine CW.condT rfl ?_ | refine CW.condF rfl ?_)
    refine CW.reg ?_
    refine WL.val rfl (run_move) ?_
    refine WL.val rfl (run_lenSl Try.underlying22 rfl) ?_
    refine WL.val rfl (run_assign) ?_
    refine WL.nil ?_
    repeat (first | refine CW.seq ?_ | refine CW.block ?_ | refine CW.skip ?_ | refine CW.exit ?_ | refine CW.condT rfl ?_ | refine CW.condF rfl ?_)
    refine CW.reg ?_
    refine WL.val rfl (run_move) ?_
    refine WL.val rfl (run_bF (run_eql rfl rfl) (by decide)) ?_
    refine WL.nil ?_
    repeat (first | refine CW.seq ?_ | refine CW.block ?_ | refine CW.skip ?_ | refine CW.exit ?_ | refine CW.condT rfl ?_ | refine CW.condF rfl ?_)
    refine CW.reg ?_
    refine WL.val rfl (run_move) ?_
    refine WL.val rfl (run_lenSl Try.underlying22 rfl) ?_
    refine WL.val rfl (run_assign) ?_
    refine WL.nil ?_
    repeat (first | refine CW.seq ?_ | refine CW.block ?_ | refine CW.skip ?_ | refine CW.exit ?_ | refine CW.condT rfl ?_ | refine CW.condF rfl ?_)
    refine CW.reg ?_
    refine WL.val rfl (run_move) ?_
    refine WL.val rfl (run_move) ?_
    refine WL.val rfl (run_bT (run_eql rfl rfl) (by rfl)) ?_
    refine WL.nil ?_
    repeat (first | refine CW.seq ?_ | refine CW.block ?_ | refine CW.skip ?_ | refine CW.exit ?_ | refine CW.condT rfl ?_ | refine CW.condF rfl ?_)
    refine CW.reg ?_
    refine WL.val rfl (run_move) ?_
    refine WL.val rfl (run_move) ?_
    refine WL.append Try.underlying22 Try.underlying22 ty48 rfl (by decide) rfl rfl (.nil _ _) (hs) (hxs hs) (x.cells1) (by first | omega | (simp only [List.length_append, List.length_cons, List.length_nil]; omega)) rfl (fun v25 Lv25 w hv25 hs => ?_)
    refine WL.val rfl (run_assign) ?_
    refine WL.nil ?_
    repeat (first | refine CW.seq ?_ | refine CW.block ?_ | refine CW.skip ?_ | refine CW.exit ?_ | refine CW.condT rfl ?_ | refine CW.condF rfl ?_)
    refine CW.ret ?_
    refine fin_ret1 rfl ?_
    have e : rows (ins [] 0 x) = [] ++ x.cells := by simp [ins, rows]
    rw [← e] at hv25
    exact ⟨_, _, rfl, hv25, Step.dropR (L2 := []) hs⟩
  · exact insertE_spec w0 hi ho hx hbb hO hcap hxb (by simpa using hne)

theorem At?_lt {l : List Ent} {n : List UInt8} {i : Nat} (h : At? l n i = true) : i < l.length := by
  unfold At? at h
  cases hx : l[i]? with
  | none => rw [hx] at h; cases h
  | some x => exact (List.getElem?_eq_some_iff.1 hx).1
theorem At?_eq {l : List Ent} {n : List UInt8} {i : Nat} (hi : i < l.length) : At? l n i = decide ((l[i]).name = n) := by
  unfold At?
  rw [List.getElem?_eq_getElem hi]

def withP (l : List Ent) (x : Ent) (i : Nat) : List Ent := if At? l x.name i = true then l.set i x else ins l i x
def lessP (l : List Ent) (n : List UInt8) (i : Nat) : List Ent := if At? l n i = true then del l i else l
def findP (l : List Ent) (n : List UInt8) (i : Nat) : Ent := if At? l n i = true then l.getD i zE else zE

theorem OwnSl.es0 {E : TypeId} {v : Value} {l : List Ent} {Lv : List (Nat × Obj)} {S : List Nat} {w0 w : World} (h : OwnSl E 34 v l.length (rows l) Lv) (ho : Oks l) (hl : l.length ≤ 9223372036854775807) (hs : Step S Lv w0 w) : Es w v l :=
  ⟨h.sl (L := []) (by rw [List.append_nil]; exact hs), ho, hl⟩
theorem rows_set {l : List Ent} {x : Ent} {i : Nat} (hi : i < l.length) (ho : Oks l) (hx : x.ok) (more : List Value) : splice (rows l ++ more) (0 + i * 34) x.cells = rows (l.set i x) ++ more := by
  have e1 : rows l ++ more = rows (l.take i) ++ (l[i]).cells ++ (rows (l.drop (i + 1)) ++ more) := by
    rw [rows_split ho hi]
    simp only [List.append_assoc]
  have e2 : rows (l.set i x) = rows (l.take i) ++ x.cells ++ rows (l.drop (i + 1)) := by
    rw [List.set_eq_take_append_cons_drop, if_pos hi, rows_append, List.append_assoc]
    rfl
  rw [e1, splice_mid (by rw [rows_take_len ho (Nat.le_of_lt hi)]; omega) (by rw [Ent.cells_len hx, Ent.cells_len (ho.get hi)]), e2]
  simp only [List.append_assoc]

theorem withE_spec {v : Value} {l : List Ent} {x : Ent} (w0 : World) (hl : Es w0 v l) (hbb : l.length ≤ 1000000) (hx : x.ok) :
    Calls Try.prog 28 #[v, .agg x.cells.toArray] w0 fun e w' => ∃ i u Lu, e = .returned u ∧ i ≤ l.length ∧ (Rising l → PartAt l x.name i) ∧ OwnSl 48 34 u (withP l x i).length (rows (withP l x i)) Lu ∧ Step [] Lu w0 w' := by
  have hs : Step [] [] w0 w0 := Step.refl w0
  have hxl := Ent.cells_len hx
  refine calls (n := 28) Try.func28 rfl rfl rfl ?_
  repeat (first | refine CW.seq ?_ | refine CW.block ?_ | refine CW.skip ?_ | refine CW.exit ?_ | refine CW.condT rfl ?_ | refine CW.condF rfl ?_)
  refine CW.reg ?_
  refine WL.box (cs := x.cells) rfl rfl rfl hs (fun b3 w hs => ?_)
  refine WL.val rfl (run_assign) ?_
  refine WL.nil ?_
  repeat (first | refine CW.seq ?_ | refine CW.block ?_ | refine CW.skip ?_ | refine CW.exit ?_ | refine CW.condT rfl ?_ | refine CW.condF rfl ?_)
  refine CW.reg ?_
  refine WL.val rfl (run_move) ?_
  refine WL.val rfl (run_field (o' := 0) Try.underlying48 rfl ty9 rfl rfl rfl) ?_
  first | refine WL.val rfl (run_load1 ty9 rfl (hs.c0 rfl)) ?_ | refine WL.val rfl (run_load1 ty9 rfl (hs.c1 rfl)) ?_ | refine WL.val rfl (run_load1 ty9 rfl (hs.c2 rfl)) ?_ | refine WL.val rfl (run_load1 ty9 rfl (hs.c3 rfl)) ?_ | refine WL.val rfl (run_load1 ty9 rfl (hs.c4 rfl)) ?_ | refine WL.val rfl (run_load1 ty9 rfl (hs.c5 rfl)) ?_ | refine WL.val rfl (run_load1 ty9 rfl (hs.c0 rfl)) ?_
  refine WL.enter rfl (run_call en55 rfl rfl) (place_spec (l := l) (n := x.name) _ (hl.step0 hs.clear) hbb) ?_
  rintro e w ⟨i, rfl, hi, hp, hq⟩
  refine ⟨_, rfl, ?_⟩
  refine WL.val rfl (run_move) ?_
  refine WL.val rfl (run_extract rfl rfl) ?_
  refine WL.val rfl (run_extract rfl rfl) ?_
  refine WL.val rfl (run_assign) ?_
  refine WL.val rfl (run_assign) ?_
  refine WL.nil ?_
  replace hs := hs.callE hq
  repeat (first | refine CW.seq ?_ | refine CW.block ?_ | refine CW.skip ?_ | refine CW.exit ?_ | refine CW.condT rfl ?_ | refine CW.condF rfl ?_)
  refine CW.reg ?_
  refine WL.val rfl (run_move) ?_
  refine WL.enter rfl (run_call en56 rfl rfl) (cloneE_spec (l := l) _ (hl.step0 hs.clear) hbb) ?_
  rintro e w ⟨u, Lu, rfl, hu, hq2⟩
  refine ⟨_, rfl, ?_⟩
  refine WL.val rfl (run_assign) ?_
  refine WL.nil ?_
  replace hs : Step [] (Lu ++ [(b3, blk 48 x.cells)]) w0 w := hs.call0 hq2
  cases hat : At? l x.name i with
  | true =>
    have hlt := At?_lt hat
    have hsm := hu.some1 (by omega)
    obtain ⟨b, cap, more, hq1, hqL, hcap⟩ := hsm
    subst hq1
    subst hqL
    have hcl : (rows l ++ more).length = cap * 34 := hcap
    have hrl := rows_len hl.2.1
    have hcl2 : l.length ≤ cap := by
      rw [List.length_append, hrl] at hcap
      omega
    have hc34 : 0 + i * 34 + 34 ≤ (rows l ++ more).length := by rw [hcl]; omega
    replace hs : Step [] [(b, blk 48 (rows l ++ more)), (b3, blk 48 x.cells)] w0 w := hs
    repeat (first | refine CW.seq ?_ | refine CW.block ?_ | refine CW.skip ?_ | refine CW.exit ?_ | refine CW.condT rfl ?_ | refine CW.condF rfl ?_)
    refine CW.reg ?_
    refine WL.val rfl (run_move) ?_
    refine WL.nil ?_
    repeat (first | refine CW.seq ?_ | refine CW.block ?_ | refine CW.skip ?_ | refine CW.exit ?_ | refine CW.condT rfl ?_ | refine CW.condF rfl ?_)
    refine CW.reg ?_
    refine WL.val rfl (run_move) ?_
    refine WL.val rfl (run_move) ?_
    refine WL.val rfl (run_loadN ty48 rfl hxl hs.a1) ?_
    first | refine WL.val rfl (run_ixSlN Try.underlying22 ty48 rfl rfl (by omega)) ?_ | refine WL.val rfl (run_ixSl Try.underlying22 ty48 rfl rfl (by omega)) ?_
    refine WL.storeN ty48 rfl rfl (hxl) (x.cells1) (hs) (by first | (simp; done) | omega | (simp only [List.length_append, List.length_replicate, List.length_cons, List.length_nil, List.length_set]; omega) | (simp [Ent.cells, u8s]; done) | exact Nat.le_of_ble_eq_true rfl) (fun w hs => ?_)
    refine WL.nil ?_
    replace hs := Step.blkEq (rows_set hlt hl.2.1 hx more) hs
    repeat (first | refine CW.seq ?_ | refine CW.block ?_ | refine CW.skip ?_ | refine CW.exit ?_ | refine CW.condT rfl ?_ | refine CW.condF rfl ?_)
    refine CW.reg ?_
    refine WL.val rfl (run_move) ?_
    refine WL.val rfl (run_assign) ?_
    refine WL.nil ?_
    repeat (first | refine CW.seq ?_ | refine CW.block ?_ | refine CW.skip ?_ | refine CW.exit ?_ | refine CW.condT rfl ?_ | refine CW.condF rfl ?_)
    refine CW.ret ?_
    refine fin_ret1 rfl ?_
    have hw : withP l x i = l.set i x := by unfold withP; rw [if_pos hat]
    have hres : OwnSl 48 34 (.slice (some ⟨b, 0, none⟩) l.length cap) (withP l x i).length (rows (withP l x i)) [(b, blk 48 (rows (withP l x i) ++ more))] := by
      rw [hw]
      have hok : Oks (l.set i x) := fun y hy => by
        rcases List.mem_or_eq_of_mem_set hy with h | rfl
        · exact hl.2.1 y h
        · exact hx
      have hr := rows_len hok
      rw [List.length_set] at hr
      refine ⟨by rw [hr, List.length_set], .inr ⟨b, cap, more, by rw [List.length_set], rfl, ?_⟩⟩
      rw [List.length_append, hr]
      rw [List.length_append, hrl] at hcap
      exact hcap
    rw [← hw] at hs
    exact ⟨i, .slice (some ⟨b, 0, none⟩) l.length cap, _, rfl, hi, hp, hres, Step.dropR (L1 := [_]) hs⟩
  | false =>
    have hs3 := Step.append_comm hs
    repeat (first | refine CW.seq ?_ | refine CW.block ?_ | refine CW.skip ?_ | refine CW.exit ?_ | refine CW.condT rfl ?_ | refine CW.condF rfl ?_)
    refine CW.reg ?_
    refine WL.val rfl (run_move) ?_
    refine WL.nil ?_
    have hs := hs3
    repeat (first | refine CW.seq ?_ | refine CW.block ?_ | refine CW.skip ?_ | refine CW.exit ?_ | refine CW.condT rfl ?_ | refine CW.condF rfl ?_)
    refine CW.reg ?_
    refine WL.val rfl (run_move) ?_
    refine WL.val rfl (run_move) ?_
    refine WL.val rfl (run_loadN ty48 rfl hxl hs.a0) ?_
    refine WL.buildSlice (cs := x.cells) Try.underlying22 ty48 rfl (by decide) rfl (filled1 hxl rfl) rfl hs (fun b26 w hs => ?_)
    have hsl := Step.append_comm (L1 := [_, _]) hs
    refine WL.enter rfl (run_call en58 rfl rfl) (insertO_spec (l := l) (x := x) (i := i) _ hi hl.2.1 hx hbb hu (Step.own hsl) hs.hd (fun hm => Step.disj (L1 := [_, _]) hs _ (List.mem_cons_self ..) hm)) ?_
    rintro e w ⟨u2, Lu2, rfl, hu2, hq3⟩
    refine ⟨_, rfl, ?_⟩
    refine WL.val rfl (run_assign) ?_
    refine WL.nil ?_
    repeat (first | refine CW.seq ?_ | refine CW.block ?_ | refine CW.skip ?_ | refine CW.exit ?_ | refine CW.condT rfl ?_ | refine CW.condF rfl ?_)
    refine CW.ret ?_
    refine fin_ret1 rfl ?_
    have hw : withP l x i = ins l i x := by unfold withP; rw [if_neg (by rw [hat]; simp)]
    rw [← hw] at hu2
    exact ⟨i, u2, Lu2, rfl, hi, hp, hu2, Step.dropR (Step.call (L1 := Lu) hsl hq3)⟩

theorem lessE_spec {v : Value} {l : List Ent} {n : List UInt8} (w0 : World) (hl : Es w0 v l) (hbb : l.length ≤ 1000000) :
    Calls Try.prog 24 #[v, str n] w0 fun e w' => ∃ i u Lu, e = .returned u ∧ i ≤ l.length ∧ (Rising l → PartAt l n i) ∧ OwnSl 48 34 u (lessP l n i).length (rows (lessP l n i)) Lu ∧ Step [] Lu w0 w' := by
  have hs : Step [] [] w0 w0 := Step.refl w0
  refine calls (n := 23) Try.func24 rfl rfl rfl ?_
  repeat (first | refine CW.seq ?_ | refine CW.block ?_ | refine CW.skip ?_ | refine CW.exit ?_ | refine CW.condT rfl ?_ | refine CW.condF rfl ?_)
  refine CW.reg ?_
  refine WL.val rfl (run_assign) ?_
  refine WL.nil ?_
  repeat (first | refine CW.seq ?_ | refine CW.block ?_ | refine CW.skip ?_ | refine CW.exit ?_ | refine CW.condT rfl ?_ | refine CW.condF rfl ?_)
  refine CW.reg ?_
  refine WL.val rfl (run_move) ?_
  refine WL.val rfl (run_move) ?_
  refine WL.enter rfl (run_call en55 rfl rfl) (place_spec (l := l) (n := n) _ (hl.step0 hs.clear) hbb) ?_
  rintro e w ⟨i, rfl, hi, hp, hq⟩
  refine ⟨_, rfl, ?_⟩
  refine WL.val rfl (run_move) ?_
  refine WL.val rfl (run_extract rfl rfl) ?_
  refine WL.val rfl (run_extract rfl rfl) ?_
  refine WL.val rfl (run_assign) ?_
  refine WL.val rfl (run_assign) ?_
  refine WL.nil ?_
  replace hs := hs.callE hq
  repeat (first | refine CW.seq ?_ | refine CW.block ?_ | refine CW.skip ?_ | refine CW.exit ?_ | refine CW.condT rfl ?_ | refine CW.condF rfl ?_)
  refine CW.reg ?_
  refine WL.val rfl (run_move) ?_
  refine WL.enter rfl (run_call en56 rfl rfl) (cloneE_spec (l := l) _ (hl.step0 hs.clear) hbb) ?_
  rintro e w ⟨u, Lu, rfl, hu, hq2⟩
  refine ⟨_, rfl, ?_⟩
  refine WL.val rfl (run_assign) ?_
  refine WL.nil ?_
  replace hs : Step [] (Lu ++ []) w0 w := hs.call0 hq2
  cases hat : At? l n i with
  | true =>
    have hlt := At?_lt hat
    have hsm := hu.some1 (by omega)
    obtain ⟨b, cap, more, hq1, hqL, hcap⟩ := hsm
    subst hq1
    subst hqL
    have hown := Step.own hs
    have hw : lessP l n i = del l i := by unfold lessP; rw [if_pos hat]
    repeat (first | refine CW.seq ?_ | refine CW.block ?_ | refine CW.skip ?_ | refine CW.exit ?_ | refine CW.condT rfl ?_ | refine CW.condF rfl ?_)
    refine CW.reg ?_
    refine WL.val rfl (run_move) ?_
    refine WL.nil ?_
    repeat (first | refine CW.seq ?_ | refine CW.block ?_ | refine CW.skip ?_ | refine CW.exit ?_ | refine CW.condT rfl ?_ | refine CW.condF rfl ?_)
    refine CW.reg ?_
    refine WL.val rfl (run_move) ?_
    refine WL.val rfl (run_move) ?_
    refine WL.val rfl (run_move) ?_
    refine WL.val rfl (run_add (c := ((i + 1 : Nat) : Int)) rfl rfl (by omega) (by omega)) ?_
    refine WL.enter rfl (run_call en57 rfl rfl) (deleteE_spec (l := l) (more := more) _ hlt hl.2.1 hbb hown hcap) ?_
    rintro e w ⟨u2, Lu2, rfl, hu2, hq3⟩
    refine ⟨_, rfl, ?_⟩
    refine WL.val rfl (run_assign) ?_
    refine WL.nil ?_
    repeat (first | refine CW.seq ?_ | refine CW.block ?_ | refine CW.skip ?_ | refine CW.exit ?_ | refine CW.condT rfl ?_ | refine CW.condF rfl ?_)
    refine CW.reg ?_
    refine WL.val rfl (run_move) ?_
    refine WL.val rfl (run_assign) ?_
    refine WL.nil ?_
    repeat (first | refine CW.seq ?_ | refine CW.block ?_ | refine CW.skip ?_ | refine CW.exit ?_ | refine CW.condT rfl ?_ | refine CW.condF rfl ?_)
    refine CW.ret ?_
    refine fin_ret1 rfl ?_
    rw [← hw] at hu2
    exact ⟨i, u2, Lu2, rfl, hi, hp, hu2, Step.dropR (Step.call (L1 := [_]) hs hq3)⟩
  | false =>
    have hw : lessP l n i = l := by unfold lessP; rw [if_neg (by rw [hat]; simp)]
    repeat (first | refine CW.seq ?_ | refine CW.block ?_ | refine CW.skip ?_ | refine CW.exit ?_ | refine CW.condT rfl ?_ | refine CW.condF rfl ?_)
    refine CW.reg ?_
    refine WL.val rfl (run_move) ?_
    refine WL.nil ?_
    repeat (first | refine CW.seq ?_ | refine CW.block ?_ | refine CW.skip ?_ | refine CW.exit ?_ | refine CW.condT rfl ?_ | refine CW.condF rfl ?_)
    refine CW.reg ?_
    refine WL.val rfl (run_move) ?_
    refine WL.val rfl (run_assign) ?_
    refine WL.nil ?_
    repeat (first | refine CW.seq ?_ | refine CW.block ?_ | refine CW.skip ?_ | refine CW.exit ?_ | refine CW.condT rfl ?_ | refine CW.condF rfl ?_)
    refine CW.ret ?_
    refine fin_ret1 rfl ?_
    rw [← hw] at hu
    exact ⟨i, u, Lu, rfl, hi, hp, hu, Step.dropR hs⟩

theorem findE_spec {v : Value} {l : List Ent} {n : List UInt8} (w0 : World) (hl : Es w0 v l) (hbb : l.length ≤ 1000000) :
    Calls Try.prog 26 #[v, str n] w0 fun e w' => ∃ i, e = .returned (.tuple #[.agg (findP l n i).cells.toArray, .bool (At? l n i)]) ∧ i ≤ l.length ∧ (Rising l → PartAt l n i) ∧ Step [] [] w0 w' := by
  have hs : Step [] [] w0 w0 := Step.refl w0
  refine calls (n := 21) Try.func26 rfl rfl rfl ?_
  repeat (first | refine CW.seq ?_ | refine CW.block ?_ | refine CW.skip ?_ | refine CW.exit ?_ | refine CW.condT rfl ?_ | refine CW.condF rfl ?_)
  refine CW.reg ?_
  refine WL.alloc ty48 rfl hs (fun b4 w hs => ?_)
  refine WL.val rfl (run_assign) ?_
  refine WL.nil ?_
  have hz : Step [] [(b4, blk 48 zE.cells)] w0 w := hs
  replace hs := hz
  repeat (first | refine CW.seq ?_ | refine CW.block ?_ | refine CW.skip ?_ | refine CW.exit ?_ | refine CW.condT rfl ?_ | refine CW.condF rfl ?_)
  refine CW.reg ?_
  refine WL.val rfl (run_move) ?_
  refine WL.val rfl (run_move) ?_
  refine WL.enter rfl (run_call en55 rfl rfl) (place_spec (l := l) (n := n) _ (hl.step0 hs.clear) hbb) ?_
  rintro e w ⟨i, rfl, hi, hp, hq⟩
  refine ⟨_, rfl, ?_⟩
  refine WL.val rfl (run_move) ?_
  refine WL.val rfl (run_extract rfl rfl) ?_
  refine WL.val rfl (run_extract rfl rfl) ?_
  refine WL.val rfl (run_assign) ?_
  refine WL.val rfl (run_assign) ?_
  refine WL.nil ?_
  replace hs := hs.callE hq
  cases hat : At? l n i with
  | true =>
    have hlt := At?_lt hat
    have hok := hl.2.1.get hlt
    have hyl := Ent.cells_len hok
    have hw : findP l n i = l[i] := by unfold findP; rw [if_pos hat]; simp [List.getD, hlt]
    rcases hl.cases with ⟨c', hv', h0⟩ | ⟨b, off, c', hv', hatl⟩
    · rw [h0] at hlt; simp at hlt
    subst hv'
    have hax : ∀ {w : World} {L : List (Nat × Obj)}, Step [] L w0 w → At w b (off + i * 34) (l[i]).cells := fun hs => (hatl.ent hl.2.1 hlt).step hs (by simp)
    repeat (first | refine CW.seq ?_ | refine CW.block ?_ | refine CW.skip ?_ | refine CW.exit ?_ | refine CW.condT rfl ?_ | refine CW.condF rfl ?_)
    refine CW.reg ?_
    refine WL.val rfl (run_move) ?_
    first | refine WL.val rfl (run_notB rfl) ?_ | refine WL.val rfl (run_not rfl) ?_
    refine WL.nil ?_
    repeat (first | refine CW.seq ?_ | refine CW.block ?_ | refine CW.skip ?_ | refine CW.exit ?_ | refine CW.condT rfl ?_ | refine CW.condF rfl ?_)
    refine CW.reg ?_
    refine WL.val rfl (run_move) ?_
    refine WL.val rfl (run_move) ?_
    first | refine WL.val rfl (run_ixSlN Try.underlying22 ty48 rfl rfl (by omega)) ?_ | refine WL.val rfl (run_ixSl Try.underlying22 ty48 rfl rfl (by omega)) ?_
    refine WL.val rfl (run_loadN ty48 rfl hyl (hax hs)) ?_
    first | refine WL.storeAll ty48 rfl rfl ((hyl)) ((l[i]).cells1) hs (by first | rfl | assumption) (fun w hs => ?_) | refine WL.storeAll_1 ty48 rfl rfl ((hyl)) ((l[i]).cells1) hs (by first | rfl | assumption) (fun w hs => ?_) | refine WL.storeAll_2 ty48 rfl rfl ((hyl)) ((l[i]).cells1) hs (by first | rfl | assumption) (fun w hs => ?_) | refine WL.storeAll_3 ty48 rfl rfl ((hyl)) ((l[i]).cells1) hs (by first | rfl | assumption) (fun w hs => ?_) | refine WL.storeAll_4 ty48 rfl rfl ((hyl)) ((l[i]).cells1) hs (by first | rfl | assumption) (fun w hs => ?_) | refine WL.storeAll ty48 rfl rfl ((hyl)) ((l[i]).cells1) hs (by first | rfl | assumption) (fun w hs => ?_)
    refine WL.val rfl (run_assign) ?_
    refine WL.nil ?_
    repeat (first | refine CW.seq ?_ | refine CW.block ?_ | refine CW.skip ?_ | refine CW.exit ?_ | refine CW.condT rfl ?_ | refine CW.condF rfl ?_)
    refine CW.ret ?_
    refine fin_cellTmp rfl rfl (run_loadVarN ty48 hyl hs.a0) ?_
    exact ⟨i, by rw [hw, hat]; rfl, hi, hp, hs.clear⟩
  | false =>
    have hw : findP l n i = zE := by unfold findP; rw [if_neg (by rw [hat]; simp)]
    repeat (first | refine CW.seq ?_ | refine CW.block ?_ | refine CW.skip ?_ | refine CW.exit ?_ | refine CW.condT rfl ?_ | refine CW.condF rfl ?_)
    refine CW.reg ?_
    refine WL.val rfl (run_move) ?_
    first | refine WL.val rfl (run_notB rfl) ?_ | refine WL.val rfl (run_not rfl) ?_
    refine WL.nil ?_
    repeat (first | refine CW.seq ?_ | refine CW.block ?_ | refine CW.skip ?_ | refine CW.exit ?_ | refine CW.condT rfl ?_ | refine CW.condF rfl ?_)
    refine CW.reg ?_
    refine WL.val rfl (run_build rfl (bld_zE _)) ?_
    first | refine WL.storeAll ty48 rfl rfl (by first | rfl | assumption) (by first | assumption | exact Cells1.of_all rfl | exact Ent.cells1 _) hs (by first | rfl | assumption) (fun w hs => ?_) | refine WL.storeAll_1 ty48 rfl rfl (by first | rfl | assumption) (by first | assumption | exact Cells1.of_all rfl | exact Ent.cells1 _) hs (by first | rfl | assumption) (fun w hs => ?_) | refine WL.storeAll_2 ty48 rfl rfl (by first | rfl | assumption) (by first | assumption | exact Cells1.of_all rfl | exact Ent.cells1 _) hs (by first | rfl | assumption) (fun w hs => ?_) | refine WL.storeAll_3 ty48 rfl rfl (by first | rfl | assumption) (by first | assumption | exact Cells1.of_all rfl | exact Ent.cells1 _) hs (by first | rfl | assumption) (fun w hs => ?_) | refine WL.storeAll_4 ty48 rfl rfl (by first | rfl | assumption) (by first | assumption | exact Cells1.of_all rfl | exact Ent.cells1 _) hs (by first | rfl | assumption) (fun w hs => ?_) | refine WL.storeAll ty48 rfl rfl (by first | rfl | assumption) (by first | assumption | exact Cells1.of_all rfl | exact Ent.cells1 _) hs (by first | rfl | assumption) (fun w hs => ?_)
    refine WL.val rfl (run_assign) ?_
    refine WL.nil ?_
    repeat (first | refine CW.seq ?_ | refine CW.block ?_ | refine CW.skip ?_ | refine CW.exit ?_ | refine CW.condT rfl ?_ | refine CW.condF rfl ?_)
    refine CW.ret ?_
    refine fin_cellTmp rfl rfl (run_loadVarN ty48 rfl hs.a0) ?_
    exact ⟨i, by rw [hw, hat]; rfl, hi, hp, hs.clear⟩
end Go.Gx
