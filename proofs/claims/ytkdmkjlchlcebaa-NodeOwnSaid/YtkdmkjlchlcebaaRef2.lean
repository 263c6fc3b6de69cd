/- The document's side: Put, Done, Encode. -/
import Derived.Test.YtkdmkjlchlcebaaRef1
namespace Go.Gx
open Go.Proofs
set_option linter.unusedVariables false
set_option linter.unusedSimpArgs false
set_option maxRecDepth 100000

structure It where
  k : Int
  n : Nat
  bv : Value
  b : List UInt8
def It.cells (x : It) : List Value := [.int .i64 x.k, .int .i64 x.n, x.bv]
def It.ok (w : World) (x : It) : Prop := x.k = 1 ∧ x.n ≤ 9223372036854775807 ∧ x.bv = .slice none 0 0 ∨ (x.k = 4 ∨ x.k = 5) ∧ x.n = 0 ∧ x.b.length ≤ 70368744177664 ∧ Sl w 1 x.bv x.b.length (u8s x.b)
def It.put (x : It) : List UInt8 := if x.k = 1 then formB x.n else formB x.b.length ++ x.b
def rowsI (l : List It) : List Value := l.flatMap It.cells
theorem rowsI_len (l : List It) : (rowsI l).length = l.length * 3 := by
  induction l with
  | nil => rfl
  | cons x l ih =>
    simp only [rowsI, List.flatMap_cons, List.length_append, List.length_cons] at *
    have : x.cells.length = 3 := rfl
    omega
theorem rowsI_append (a b : List It) : rowsI (a ++ b) = rowsI a ++ rowsI b := by simp [rowsI]
theorem At.item {w : World} {b off : Nat} {l : List It} (ha : At w b off (rowsI l)) {k : Nat} (hk : k < l.length) : At w b (off + k * 3) (l[k]).cells := by
  have e : l = l.take k ++ l[k] :: l.drop (k + 1) := by rw [← List.drop_eq_getElem_cons hk, List.take_append_drop]
  have e2 : rowsI (l.take k ++ l[k] :: l.drop (k + 1)) = rowsI (l.take k) ++ ((l[k]).cells ++ rowsI (l.drop (k + 1))) := by rw [rowsI_append]; rfl
  have e3 : rowsI l = rowsI (l.take k) ++ ((l[k]).cells ++ rowsI (l.drop (k + 1))) := by rw [← e2, ← e]
  rw [e3] at ha
  have := ha.right.left
  rw [rowsI_len, List.length_take, Nat.min_eq_left (Nat.le_of_lt hk)] at this
  exact this
theorem It.ok.step {S : List Nat} {L : List (Nat × Obj)} {w w' : World} {x : It} (h : x.ok w) (hs : Step S L w w') (hS : x.b = [] ∨ Outside x.bv S) : x.ok w' := by
  rcases h with h | ⟨h1, h2, h3, h4⟩
  · exact .inl h
  · refine .inr ⟨h1, h2, h3, ?_⟩
    rcases hS with hb | hS
    · obtain ⟨hl, h | ⟨b, off, c, hv, hat⟩⟩ := h4
      · exact ⟨hl, .inl h⟩
      · refine ⟨hl, .inr ⟨b, off, c, hv, ?_⟩⟩
        rw [hb]
        exact At.nil
    · exact h4.step hs hS
theorem It.ok.cells1 {w : World} {x : It} (h : x.ok w) : Cells1 x.cells := fun v hv => by
  simp only [It.cells, List.mem_cons, List.not_mem_nil, or_false] at hv
  rcases hv with rfl | rfl | rfl
  · rfl
  · rfl
  · rcases h with ⟨_, _, h⟩ | ⟨_, _, _, h⟩
    · rw [h]; rfl
    · obtain ⟨_, ⟨_, c, h, _⟩ | ⟨b, off, c, h, _⟩⟩ := h <;> rw [h] <;> rfl

theorem put_spec {x : It} (w0 : World) (hx : x.ok w0) : Calls Try.prog 67 #[.agg x.cells.toArray] w0 fun e w' => ∃ v Lv, e = .returned v ∧ OwnSl 5 1 v x.put.length (u8s x.put) Lv ∧ Step [] Lv w0 w' := by
  have hs : Step [] [] w0 w0 := Step.refl w0
  obtain ⟨k, n, bv, b⟩ := x
  rcases hx with ⟨hk, hn, hbv⟩ | ⟨hk, hn, hb, hsl⟩
  · simp only at hk hn hbv
    subst hk
    subst hbv
    have e : It.put ⟨1, n, .slice none 0 0, b⟩ = formB n := rfl
    rw [e]
    refine calls (n := 41) Try.func67 rfl rfl rfl ?_
    repeat (first | refine CW.seq ?_ | refine CW.block ?_ | refine CW.skip ?_ | refine CW.label ?_ | refine CW.exit ?_ | refine CW.condT rfl ?_ | refine CW.condF rfl ?_)
    refine CW.reg ?_
    refine WL.box (cs := [.int .i64 1, .int .i64 n, .slice none 0 0]) rfl rfl rfl hs (fun b1 w hs => ?_)
    refine WL.val rfl (run_assign) ?_
    refine WL.nil ?_
    repeat (first | refine CW.seq ?_ | refine CW.block ?_ | refine CW.skip ?_ | refine CW.label ?_ | refine CW.exit ?_ | refine CW.condT rfl ?_ | refine CW.condF rfl ?_)
    refine CW.reg ?_
    refine WL.val rfl (run_field (o' := 0) Try.underlying73 rfl ty3 rfl rfl rfl) ?_
    refine WL.val rfl (run_load1 ty3 rfl (hs.c0 rfl)) ?_
    refine WL.nil ?_
    repeat (first | refine CW.seq ?_ | refine CW.block ?_ | refine CW.skip ?_ | refine CW.label ?_ | refine CW.exit ?_ | refine CW.condT rfl ?_ | refine CW.condF rfl ?_)
    refine CW.reg ?_
    refine WL.val rfl (run_bT (run_eql rfl rfl) (by omega)) ?_
    refine WL.val rfl (run_assign) ?_
    refine WL.nil ?_
    repeat (first | refine CW.seq ?_ | refine CW.block ?_ | refine CW.skip ?_ | refine CW.label ?_ | refine CW.exit ?_ | refine CW.condT rfl ?_ | refine CW.condF rfl ?_)
    refine CW.reg ?_
    refine WL.val rfl (run_field (o' := 1) Try.underlying73 rfl ty3 rfl rfl rfl) ?_
    refine WL.val rfl (run_load1 ty3 rfl (hs.c0 rfl)) ?_
    first | refine WL.val rfl (run_convU64 Try.underlying3 Try.underlying101 rfl (by omega)) ?_ | refine WL.val rfl (run_convInt Try.underlying3 Try.underlying101 rfl) ?_
    refine WL.enter rfl (run_call en82 rfl rfl) (formR_spec n _ (by omega)) ?_
    rintro e w ⟨v', Lv', rfl, hv', hq⟩
    refine ⟨_, rfl, ?_⟩
    refine WL.val rfl (run_assign) ?_
    refine WL.nil ?_
    repeat (first | refine CW.seq ?_ | refine CW.block ?_ | refine CW.skip ?_ | refine CW.label ?_ | refine CW.exit ?_ | refine CW.condT rfl ?_ | refine CW.condF rfl ?_)
    refine CW.ret ?_
    refine fin_ret1 rfl ?_
    exact ⟨_, _, rfl, hv', (hs.call0 hq).dropR⟩
  · simp only at hk hn hb hsl
    subst hn
    have e : It.put ⟨k, 0, bv, b⟩ = formB b.length ++ b := by
      unfold It.put
      rw [if_neg (by show ¬ k = 1; omega)]
    have hfl := formB_len b.length
    rw [e]
    obtain ⟨ba, bc, rfl⟩ : ∃ a c, bv = .slice a b.length c := by
      obtain ⟨_, ⟨_, c, rfl, h0⟩ | ⟨bb, off, c, rfl, _⟩⟩ := hsl
      · exact ⟨_, _, by rw [h0]⟩
      · exact ⟨_, _, rfl⟩
    refine calls (n := 41) Try.func67 rfl rfl rfl ?_
    repeat (first | refine CW.seq ?_ | refine CW.block ?_ | refine CW.skip ?_ | refine CW.label ?_ | refine CW.exit ?_ | refine CW.condT rfl ?_ | refine CW.condF rfl ?_)
    refine CW.reg ?_
    refine WL.box (cs := [.int .i64 k, .int .i64 (0 : Nat), .slice ba b.length bc]) rfl rfl rfl hs (fun b1 w hs => ?_)
    refine WL.val rfl (run_assign) ?_
    refine WL.nil ?_
    repeat (first | refine CW.seq ?_ | refine CW.block ?_ | refine CW.skip ?_ | refine CW.label ?_ | refine CW.exit ?_ | refine CW.condT rfl ?_ | refine CW.condF rfl ?_)
    refine CW.reg ?_
    refine WL.val rfl (run_field (o' := 0) Try.underlying73 rfl ty3 rfl rfl rfl) ?_
    refine WL.val rfl (run_load1 ty3 rfl (hs.c0 rfl)) ?_
    refine WL.nil ?_
    repeat (first | refine CW.seq ?_ | refine CW.block ?_ | refine CW.skip ?_ | refine CW.label ?_ | refine CW.exit ?_ | refine CW.condT rfl ?_ | refine CW.condF rfl ?_)
    refine CW.reg ?_
    refine WL.val rfl (run_bF (run_eql rfl rfl) (by omega)) ?_
    refine WL.val rfl (run_assign) ?_
    refine WL.nil ?_
    repeat (first | refine CW.seq ?_ | refine CW.block ?_ | refine CW.skip ?_ | refine CW.label ?_ | refine CW.exit ?_ | refine CW.condT rfl ?_ | refine CW.condF rfl ?_)
    refine CW.reg ?_
    refine WL.val rfl (run_bF (run_eql rfl rfl) (by omega)) ?_
    refine WL.val rfl (run_assign) ?_
    refine WL.nil ?_
    repeat (first | refine CW.seq ?_ | refine CW.block ?_ | refine CW.skip ?_ | refine CW.label ?_ | refine CW.exit ?_ | refine CW.condT rfl ?_ | refine CW.condF rfl ?_)
    refine CW.reg ?_
    refine WL.val rfl (run_bF (run_eql rfl rfl) (by omega)) ?_
    refine WL.val rfl (run_assign) ?_
    refine WL.nil ?_
    repeat (first | refine CW.seq ?_ | refine CW.block ?_ | refine CW.skip ?_ | refine CW.label ?_ | refine CW.exit ?_ | refine CW.condT rfl ?_ | refine CW.condF rfl ?_)
    refine CW.reg ?_
    refine WL.val rfl (run_bF (run_eql rfl rfl) (by omega)) ?_
    refine WL.val rfl (run_assign) ?_
    refine WL.nil ?_
    repeat (first | refine CW.seq ?_ | refine CW.block ?_ | refine CW.skip ?_ | refine CW.label ?_ | refine CW.exit ?_ | refine CW.condT rfl ?_ | refine CW.condF rfl ?_)
    refine CW.reg ?_
    refine WL.val rfl (run_field (o' := 2) Try.underlying73 rfl ty29 rfl rfl rfl) ?_
    refine WL.val rfl (run_load1 ty29 rfl (hs.c0 rfl)) ?_
    refine WL.val rfl (run_lenSl Try.underlying29 rfl) ?_
    first | refine WL.val rfl (run_convU64 Try.underlying3 Try.underlying101 rfl (by omega)) ?_ | refine WL.val rfl (run_convInt Try.underlying3 Try.underlying101 rfl) ?_
    refine WL.enter rfl (run_call en82 rfl rfl) (formR_spec b.length _ (by omega)) ?_
    rintro e w ⟨v', Lv', rfl, hv', hq⟩
    refine ⟨_, rfl, ?_⟩
    refine WL.val rfl (run_assign) ?_
    refine WL.nil ?_
    replace hs := hs.call0 hq
    repeat (first | refine CW.seq ?_ | refine CW.block ?_ | refine CW.skip ?_ | refine CW.label ?_ | refine CW.exit ?_ | refine CW.condT rfl ?_ | refine CW.condF rfl ?_)
    refine CW.reg ?_
    refine WL.val rfl (run_move) ?_
    refine WL.val rfl (run_field (o' := 2) Try.underlying73 rfl ty29 rfl rfl rfl) ?_
    refine WL.val rfl (run_load1 ty29 rfl (hs.append_comm.c0 rfl)) ?_
    refine WL.append Try.underlying29 Try.underlying29 ty5 rfl (by decide) rfl rfl (hv') (hs) ((hsl.step0 hs.clear)) (Cells1.u8s b) (by first | omega | (simp only [List.length_append, List.length_cons, List.length_nil]; omega)) rfl (fun v40 Lv40 w hv40 hs => ?_)
    refine WL.val rfl (run_assign) ?_
    refine WL.nil ?_
    repeat (first | refine CW.seq ?_ | refine CW.block ?_ | refine CW.skip ?_ | refine CW.label ?_ | refine CW.exit ?_ | refine CW.condT rfl ?_ | refine CW.condF rfl ?_)
    refine CW.ret ?_
    refine fin_ret1 rfl ?_
    refine ⟨_, _, rfl, ?_, hs.dropR⟩
    rw [List.length_append, u8s_append]
    exact hv40

theorem It.put_len_take {l : List It} (k : Nat) : (((l.take k).flatMap It.put).length ≤ (l.flatMap It.put).length) := by
  conv => rhs; rw [← List.take_append_drop k l]
  rw [List.flatMap_append, List.length_append]
  omega

theorem doneR_spec {v : Value} {l : List It} (w0 : World) (hl : Sl w0 3 v l.length (rowsI l)) (hok : ∀ x ∈ l, x.ok w0) (hsum : (l.flatMap It.put).length ≤ 4194304) (hlen : l.length ≤ 4398046511104) :
    Calls Try.prog 43 #[v] w0 fun e w' => ∃ v' Lv, e = .returned (.tuple #[v', .int .i64 0]) ∧ OwnSl 5 1 v' (l.flatMap It.put).length (u8s (l.flatMap It.put)) Lv ∧ Step [] Lv w0 w' := by
  have hs : Step [] [] w0 w0 := Step.refl w0
  obtain ⟨a, c, rfl⟩ : ∃ a c, v = .slice a l.length c := by
    obtain ⟨_, ⟨_, c, rfl, h0⟩ | ⟨b, off, c, rfl, _⟩⟩ := hl
    · exact ⟨_, _, by rw [h0]⟩
    · exact ⟨_, _, rfl⟩
  refine calls (n := 42) Try.func43 rfl rfl rfl ?_
  repeat (first | refine CW.seq ?_ | refine CW.block ?_ | refine CW.skip ?_ | refine CW.label ?_ | refine CW.exit ?_ | refine CW.condT rfl ?_ | refine CW.condF rfl ?_)
  refine CW.reg ?_
  refine WL.val rfl (run_assign) ?_
  refine WL.val rfl (run_assign) ?_
  refine WL.nil ?_
  repeat (first | refine CW.seq ?_ | refine CW.block ?_ | refine CW.skip ?_ | refine CW.label ?_ | refine CW.exit ?_ | refine CW.condT rfl ?_ | refine CW.condF rfl ?_)
  refine CW.reg ?_
  refine WL.val rfl (run_assign) ?_
  refine WL.nil ?_
  repeat (first | refine CW.seq ?_ | refine CW.block ?_ | refine CW.skip ?_ | refine CW.label ?_ | refine CW.exit ?_ | refine CW.condT rfl ?_ | refine CW.condF rfl ?_)
  refine CW.reg ?_
  refine WL.val rfl (run_assign) ?_
  refine WL.nil ?_
  repeat (first | refine CW.seq ?_ | refine CW.block ?_ | refine CW.skip ?_ | refine CW.label ?_ | refine CW.exit ?_ | refine CW.condT rfl ?_ | refine CW.condF rfl ?_)
  refine CW.loop (fun m f w' => ∃ k v Lv, k ≤ l.length ∧ m = l.length - k ∧ OwnSl 5 1 v ((l.take k).flatMap It.put).length (u8s ((l.take k).flatMap It.put)) Lv ∧ Step [] Lv w0 w' ∧ Holds f [(0, .slice a l.length c), (4, v), (5, .int .i64 k)]) (m := l.length) ?_ ?_
  · exact ⟨0, _, [], by omega, by omega, .nil _ _, hs, rfl, rfl, rfl, trivial⟩
  · rintro m f w ⟨k, v, Lv, hk, rfl, hv, hs, hf⟩
    have hobt := hf.chain
    obtain ⟨g, rfl⟩ := hobt
    have hobt := hv.form
    obtain ⟨va, vc, rfl⟩ := hobt
    have hcap := It.put_len_take (l := l) k
    repeat (first | refine CW.seq ?_ | refine CW.block ?_ | refine CW.skip ?_ | refine CW.label ?_ | refine CW.exit ?_ | refine CW.condT rfl ?_ | refine CW.condF rfl ?_)
    refine CW.reg ?_
    refine WL.val rfl (run_move) ?_
    refine WL.val rfl (run_move) ?_
    refine WL.val rfl (run_lenSl Try.underlying74 rfl) ?_
    refine WL.val rfl (run_lss rfl rfl) ?_
    refine WL.nil ?_
    repeat (first | refine CW.seq ?_ | refine CW.block ?_ | refine CW.skip ?_ | refine CW.label ?_ | refine CW.exit ?_)
    first | refine CW.condP rfl (fun h => ?_) (fun h => ?_) | refine CW.cond rfl (fun h => ?_) (fun h => ?_)
    · have hlt : k < l.length := by omega
      obtain ⟨_, ⟨_, c1, h1, h0⟩ | ⟨lb, lo, c1, h1, hat⟩⟩ := hl
      · omega
      injection h1 with h1 _ _
      subst h1
      have hax := hat.item hlt
      have hxo := hok _ (List.getElem_mem hlt)
      have hcap' := It.put_len_take (l := l) (k + 1)
      have hfm : (l.take (k + 1)).flatMap It.put = (l.take k).flatMap It.put ++ (l[k]).put := by rw [List.take_succ_eq_append_getElem hlt, List.flatMap_append]; simp
      rw [hfm, List.length_append] at hcap'
      generalize hX : l[k] = x at *
      by_cases h1 : x.k = 1
      · repeat (first | refine CW.seq ?_ | refine CW.block ?_ | refine CW.skip ?_ | refine CW.label ?_ | refine CW.exit ?_ | refine CW.condT rfl ?_ | refine CW.condF rfl ?_)
        refine CW.reg ?_
        refine WL.val rfl (run_move) ?_
        refine WL.val rfl (run_move) ?_
        first | refine WL.val rfl (run_ixSlN Try.underlying74 ty73 rfl rfl (by omega)) ?_ | refine WL.val rfl (run_ixSl Try.underlying74 ty73 rfl rfl (by omega)) ?_
        refine WL.val rfl (run_field (o' := 0) Try.underlying73 rfl ty3 rfl rfl rfl) ?_
        refine WL.val rfl (run_load1 ty3 rfl (((hax.step hs.clear (by simp)).cell rfl))) ?_
        refine WL.val rfl (run_bT (run_eql rfl rfl) (by exact h1)) ?_
        refine WL.val rfl (run_move) ?_
        refine WL.yes rfl rfl rfl ?_
        refine WL.val rfl (run_move) ?_
        refine WL.yes rfl rfl rfl ?_
        refine WL.val rfl (run_move) ?_
        refine WL.yes rfl rfl rfl ?_
        first | refine WL.val rfl (run_ixSlN Try.underlying74 ty73 rfl rfl (by omega)) ?_ | refine WL.val rfl (run_ixSl Try.underlying74 ty73 rfl rfl (by omega)) ?_
        refine WL.yes rfl rfl rfl ?_
        refine WL.val rfl (run_field (o' := 1) Try.underlying73 rfl ty3 rfl rfl rfl) ?_
        refine WL.yes rfl rfl rfl ?_
        refine WL.val rfl (run_load1 ty3 rfl (((hax.step hs.clear (by simp)).cell (j := 1) rfl))) ?_
        refine WL.yes rfl rfl rfl ?_
        refine WL.val rfl (run_bF (run_lss rfl rfl) (by omega)) ?_
        first | refine WL.val rfl (run_pickT rfl) ?_ | refine WL.val rfl (run_pickF rfl) ?_
        refine WL.nil ?_
        repeat (first | refine CW.seq ?_ | refine CW.block ?_ | refine CW.skip ?_ | refine CW.label ?_ | refine CW.exit ?_ | refine CW.condT rfl ?_ | refine CW.condF rfl ?_)
        refine CW.reg ?_
        refine WL.val rfl (run_move) ?_
        refine WL.val rfl (run_move) ?_
        first | refine WL.val rfl (run_ixSlN Try.underlying74 ty73 rfl rfl (by omega)) ?_ | refine WL.val rfl (run_ixSl Try.underlying74 ty73 rfl rfl (by omega)) ?_
        refine WL.val rfl (run_loadN ty73 rfl rfl (hax.step hs.clear (by simp))) ?_
        refine WL.enter rfl (run_call en67 rfl rfl) (put_spec _ (hxo.step hs.clear (.inr (outside_nil _)))) ?_
        rintro e w ⟨v', Lv', rfl, hv', hq⟩
        refine ⟨_, rfl, ?_⟩
        refine WL.val rfl (run_assign) ?_
        refine WL.nil ?_
        have hobt := hv'.form
        obtain ⟨va', vc', rfl⟩ := hobt
        replace hs := (hs.call0 hq).append_comm
        repeat (first | refine CW.seq ?_ | refine CW.block ?_ | refine CW.skip ?_ | refine CW.label ?_ | refine CW.exit ?_ | refine CW.condT rfl ?_ | refine CW.condF rfl ?_)
        refine CW.reg ?_
        refine WL.val rfl (run_move) ?_
        refine WL.val rfl (run_lenSl Try.underlying29 rfl) ?_
        refine WL.val rfl (run_move) ?_
        refine WL.val rfl (run_lenSl Try.underlying29 rfl) ?_
        refine WL.val rfl (run_add rfl rfl rfl (by omega)) ?_
        refine WL.val rfl (run_bF (run_gtr rfl rfl) (by omega)) ?_
        refine WL.nil ?_
        repeat (first | refine CW.seq ?_ | refine CW.block ?_ | refine CW.skip ?_ | refine CW.label ?_ | refine CW.exit ?_ | refine CW.condT rfl ?_ | refine CW.condF rfl ?_)
        refine CW.reg ?_
        refine WL.val rfl (run_move) ?_
        refine WL.val rfl (run_move) ?_
        refine WL.append Try.underlying29 Try.underlying29 ty5 rfl (by decide) rfl rfl (hv) (hs) (hv'.sl hs.append_comm) (Cells1.u8s _) (by first | omega | (simp only [List.length_append, List.length_cons, List.length_nil]; omega)) rfl (fun v40 Lv40 w hv40 hs => ?_)
        refine WL.val rfl (run_assign) ?_
        refine WL.nil ?_
        repeat (first | refine CW.seq ?_ | refine CW.block ?_ | refine CW.skip ?_ | refine CW.label ?_ | refine CW.exit ?_ | refine CW.condT rfl ?_ | refine CW.condF rfl ?_)
        refine CW.reg ?_
        refine WL.val rfl (run_move) ?_
        refine WL.val rfl (run_add (c := ((k + 1 : Nat) : Int)) rfl rfl (by omega) (by omega)) ?_
        refine WL.val rfl (run_assign) ?_
        refine WL.nil ?_
        repeat (first | refine CW.seq ?_ | refine CW.block ?_ | refine CW.skip ?_ | refine CW.label ?_ | refine CW.exit ?_)
        refine (show _ ∧ _ from ⟨rfl, _, ?_, k + 1, _, _, by omega, rfl, ?_, hs.dropR, rfl, rfl, rfl, trivial⟩)
        · omega
        · rw [hfm, List.length_append, u8s_append]
          exact hv40
      · repeat (first | refine CW.seq ?_ | refine CW.block ?_ | refine CW.skip ?_ | refine CW.label ?_ | refine CW.exit ?_ | refine CW.condT rfl ?_ | refine CW.condF rfl ?_)
        refine CW.reg ?_
        refine WL.val rfl (run_move) ?_
        refine WL.val rfl (run_move) ?_
        first | refine WL.val rfl (run_ixSlN Try.underlying74 ty73 rfl rfl (by omega)) ?_ | refine WL.val rfl (run_ixSl Try.underlying74 ty73 rfl rfl (by omega)) ?_
        refine WL.val rfl (run_field (o' := 0) Try.underlying73 rfl ty3 rfl rfl rfl) ?_
        refine WL.val rfl (run_load1 ty3 rfl (((hax.step hs.clear (by simp)).cell rfl))) ?_
        refine WL.val rfl (run_bF (run_eql rfl rfl) (by exact h1)) ?_
        refine WL.val rfl (run_move) ?_
        first | refine WL.no rfl rfl rfl (.inl rfl) ?_ | refine WL.no rfl rfl rfl (.inr rfl) ?_
        first | refine WL.no rfl rfl rfl (.inl rfl) ?_ | refine WL.no rfl rfl rfl (.inr rfl) ?_
        first | refine WL.no rfl rfl rfl (.inl rfl) ?_ | refine WL.no rfl rfl rfl (.inr rfl) ?_
        first | refine WL.no rfl rfl rfl (.inl rfl) ?_ | refine WL.no rfl rfl rfl (.inr rfl) ?_
        first | refine WL.no rfl rfl rfl (.inl rfl) ?_ | refine WL.no rfl rfl rfl (.inr rfl) ?_
        first | refine WL.no rfl rfl rfl (.inl rfl) ?_ | refine WL.no rfl rfl rfl (.inr rfl) ?_
        first | refine WL.val rfl (run_pickT rfl) ?_ | refine WL.val rfl (run_pickF rfl) ?_
        refine WL.nil ?_
        repeat (first | refine CW.seq ?_ | refine CW.block ?_ | refine CW.skip ?_ | refine CW.label ?_ | refine CW.exit ?_ | refine CW.condT rfl ?_ | refine CW.condF rfl ?_)
        refine CW.reg ?_
        refine WL.val rfl (run_move) ?_
        refine WL.val rfl (run_move) ?_
        first | refine WL.val rfl (run_ixSlN Try.underlying74 ty73 rfl rfl (by omega)) ?_ | refine WL.val rfl (run_ixSl Try.underlying74 ty73 rfl rfl (by omega)) ?_
        refine WL.val rfl (run_loadN ty73 rfl rfl (hax.step hs.clear (by simp))) ?_
        refine WL.enter rfl (run_call en67 rfl rfl) (put_spec _ (hxo.step hs.clear (.inr (outside_nil _)))) ?_
        rintro e w ⟨v', Lv', rfl, hv', hq⟩
        refine ⟨_, rfl, ?_⟩
        refine WL.val rfl (run_assign) ?_
        refine WL.nil ?_
        have hobt := hv'.form
        obtain ⟨va', vc', rfl⟩ := hobt
        replace hs := (hs.call0 hq).append_comm
        repeat (first | refine CW.seq ?_ | refine CW.block ?_ | refine CW.skip ?_ | refine CW.label ?_ | refine CW.exit ?_ | refine CW.condT rfl ?_ | refine CW.condF rfl ?_)
        refine CW.reg ?_
        refine WL.val rfl (run_move) ?_
        refine WL.val rfl (run_lenSl Try.underlying29 rfl) ?_
        refine WL.val rfl (run_move) ?_
        refine WL.val rfl (run_lenSl Try.underlying29 rfl) ?_
        refine WL.val rfl (run_add rfl rfl rfl (by omega)) ?_
        refine WL.val rfl (run_bF (run_gtr rfl rfl) (by omega)) ?_
        refine WL.nil ?_
        repeat (first | refine CW.seq ?_ | refine CW.block ?_ | refine CW.skip ?_ | refine CW.label ?_ | refine CW.exit ?_ | refine CW.condT rfl ?_ | refine CW.condF rfl ?_)
        refine CW.reg ?_
        refine WL.val rfl (run_move) ?_
        refine WL.val rfl (run_move) ?_
        refine WL.append Try.underlying29 Try.underlying29 ty5 rfl (by decide) rfl rfl (hv) (hs) (hv'.sl hs.append_comm) (Cells1.u8s _) (by first | omega | (simp only [List.length_append, List.length_cons, List.length_nil]; omega)) rfl (fun v40 Lv40 w hv40 hs => ?_)
        refine WL.val rfl (run_assign) ?_
        refine WL.nil ?_
        repeat (first | refine CW.seq ?_ | refine CW.block ?_ | refine CW.skip ?_ | refine CW.label ?_ | refine CW.exit ?_ | refine CW.condT rfl ?_ | refine CW.condF rfl ?_)
        refine CW.reg ?_
        refine WL.val rfl (run_move) ?_
        refine WL.val rfl (run_add (c := ((k + 1 : Nat) : Int)) rfl rfl (by omega) (by omega)) ?_
        refine WL.val rfl (run_assign) ?_
        refine WL.nil ?_
        repeat (first | refine CW.seq ?_ | refine CW.block ?_ | refine CW.skip ?_ | refine CW.label ?_ | refine CW.exit ?_)
        refine (show _ ∧ _ from ⟨rfl, _, ?_, k + 1, _, _, by omega, rfl, ?_, hs.dropR, rfl, rfl, rfl, trivial⟩)
        · omega
        · rw [hfm, List.length_append, u8s_append]
          exact hv40
    · obtain rfl : k = l.length := by omega
      rw [List.take_length] at *
      repeat (first | refine CW.seq ?_ | refine CW.block ?_ | refine CW.skip ?_ | refine CW.label ?_ | refine CW.exit ?_ | refine CW.condT rfl ?_ | refine CW.condF rfl ?_)
      refine CW.reg ?_
      refine WL.val rfl (run_move) ?_
      refine WL.val rfl (run_assign) ?_
      refine WL.val rfl (run_assign) ?_
      refine WL.nil ?_
      repeat (first | refine CW.seq ?_ | refine CW.block ?_ | refine CW.skip ?_ | refine CW.label ?_ | refine CW.exit ?_ | refine CW.condT rfl ?_ | refine CW.condF rfl ?_)
      refine CW.ret ?_
      refine fin_ret2 rfl ?_
      exact ⟨_, _, rfl, hv, hs⟩
end Go.Gx
