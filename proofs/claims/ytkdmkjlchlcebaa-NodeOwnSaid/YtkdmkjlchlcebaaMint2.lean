/- bytes.Clone, Done, front, node.Encode. -/
import Derived.Test.YtkdmkjlchlcebaaMint1
import Derived.Test.YtkdmkjlchlcebaaNode2
namespace Go.Gx
open Go.Proofs
set_option linter.unusedVariables false
set_option linter.unusedSimpArgs false
set_option maxRecDepth 100000

theorem run_nilSl {P : Program} {f : Slots} {w : World} {d : Option Tmp} {ty : TypeId} {pos : String} {af : Array Edge} {x : Operand} {T T' E : TypeId} {a : Option Addr} {n c : Nat} (ht : P.underlying T = some (.slice E)) (hx : ev f x = .slice a n c) :
    (execOp (ev f) ⟨d, .binOp .eql T x (.const (.slice none 0 0)) T', ty, pos, af, none⟩).run P w = .ok (.value (.bool a.isNone)) w := by
  have h := run_equal_slice_nil (P := P) w T E a n c ht
  have e : ev f (.const (.slice none 0 0)) = .slice none 0 0 := rfl
  simp [execOp, hx, e, eqGuard_at_slice, binOp, h]

theorem clone_spec {v : Value} {s : List UInt8} (w0 : World) (hv : Sl w0 1 v s.length (u8s s)) (hs1 : s.length ≤ 140737488355328) :
    Calls Try.prog 66 #[v] w0 fun e w' => ∃ v' Lv, e = .returned v' ∧ OwnSl 5 1 v' s.length (u8s s) Lv ∧ Step [] Lv w0 w' := by
  have hs : Step [] [] w0 w0 := Step.refl w0
  have hcase : (s = [] ∧ ∃ c, v = .slice none s.length c) ∨ ∃ A c, v = .slice (some A) s.length c := by
    have hobt := id hv
    obtain ⟨_, ⟨a, c, rfl, h0⟩ | ⟨b, off, c, rfl, hat⟩⟩ := hobt
    · cases a with
      | none => exact .inl ⟨List.eq_nil_of_length_eq_zero h0, _, rfl⟩
      | some A => exact .inr ⟨_, _, rfl⟩
    · exact .inr ⟨_, _, rfl⟩
  obtain ⟨rfl, c, rfl⟩ | ⟨A, c, rfl⟩ := hcase
  · skip
    refine calls (n := 8) Try.func66 rfl rfl rfl ?_
    repeat (first | refine CW.seq ?_ | refine CW.block ?_ | refine CW.skip ?_ | refine CW.label ?_ | refine CW.exit ?_ | refine CW.condT rfl ?_ | refine CW.condF rfl ?_)
    refine CW.reg ?_
    refine WL.val rfl (run_assign) ?_
    refine WL.nil ?_
    repeat (first | refine CW.seq ?_ | refine CW.block ?_ | refine CW.skip ?_ | refine CW.label ?_ | refine CW.exit ?_ | refine CW.condT rfl ?_ | refine CW.condF rfl ?_)
    refine CW.reg ?_
    refine WL.val rfl (run_move) ?_
    refine WL.val rfl (run_nilSl Try.underlying29 rfl) ?_
    refine WL.nil ?_
    repeat (first | refine CW.seq ?_ | refine CW.block ?_ | refine CW.skip ?_ | refine CW.label ?_ | refine CW.exit ?_ | refine CW.condT rfl ?_ | refine CW.condF rfl ?_)
    refine CW.reg ?_
    refine WL.val rfl (run_assign) ?_
    refine WL.nil ?_
    repeat (first | refine CW.seq ?_ | refine CW.block ?_ | refine CW.skip ?_ | refine CW.label ?_ | refine CW.exit ?_ | refine CW.condT rfl ?_ | refine CW.condF rfl ?_)
    refine CW.ret ?_
    refine fin_ret1 rfl ?_
    exact ⟨_, [], rfl, .nil _ _, hs⟩
  · refine calls (n := 8) Try.func66 rfl rfl rfl ?_
    repeat (first | refine CW.seq ?_ | refine CW.block ?_ | refine CW.skip ?_ | refine CW.label ?_ | refine CW.exit ?_ | refine CW.condT rfl ?_ | refine CW.condF rfl ?_)
    refine CW.reg ?_
    refine WL.val rfl (run_assign) ?_
    refine WL.nil ?_
    repeat (first | refine CW.seq ?_ | refine CW.block ?_ | refine CW.skip ?_ | refine CW.label ?_ | refine CW.exit ?_ | refine CW.condT rfl ?_ | refine CW.condF rfl ?_)
    refine CW.reg ?_
    refine WL.val rfl (run_move) ?_
    refine WL.val rfl (run_nilSl Try.underlying29 rfl) ?_
    refine WL.nil ?_
    repeat (first | refine CW.seq ?_ | refine CW.block ?_ | refine CW.skip ?_ | refine CW.label ?_ | refine CW.exit ?_ | refine CW.condT rfl ?_ | refine CW.condF rfl ?_)
    refine CW.reg ?_
    refine WL.buildSlice Try.underlying29 ty5 rfl (by decide) rfl (by rfl) rfl hs (fun b5 w hs => ?_)
    refine WL.val rfl (run_move) ?_
    refine WL.append Try.underlying29 Try.underlying29 ty5 rfl (by decide) rfl rfl (.mk (xs := []) rfl) (hs) (hv.step0 hs) (Cells1.u8s s) (by first | omega | (simp only [List.length_append, List.length_cons, List.length_nil]; omega)) rfl (fun v7 Lv7 w hv7 hs => ?_)
    refine WL.val rfl (run_assign) ?_
    refine WL.nil ?_
    repeat (first | refine CW.seq ?_ | refine CW.block ?_ | refine CW.skip ?_ | refine CW.label ?_ | refine CW.exit ?_ | refine CW.condT rfl ?_ | refine CW.condF rfl ?_)
    refine CW.ret ?_
    refine fin_ret1 rfl ?_
    refine ⟨_, _, rfl, ?_, hs.dropR⟩
    have h2 := hv7
    rw [Nat.zero_add, List.nil_append] at h2
    exact h2

theorem done_ok {b : Nat} {c : List UInt8} {Lw : List (Nat × Obj)} (w0 : World) (hW : Wr b c 0 Lw) (hO : Step (Lw.map (·.1)) Lw w0 w0) (hcap : c.length ≤ 4194304) :
    Calls Try.prog 41 #[.pointer (some ⟨b, 0, none⟩)] w0 fun e w' => ∃ v Lv, e = .returned (.tuple #[v, .int .i64 0]) ∧ OwnSl 5 1 v c.length (u8s c) Lv ∧ Step [] Lv w0 w' := by
  obtain ⟨v, Lv, rfl, hv⟩ := hW
  have hs := hO
  refine calls (n := 18) Try.func41 rfl rfl rfl ?_
  repeat (first | refine CW.seq ?_ | refine CW.block ?_ | refine CW.skip ?_ | refine CW.label ?_ | refine CW.exit ?_ | refine CW.condT rfl ?_ | refine CW.condF rfl ?_)
  refine CW.reg ?_
  refine WL.val rfl (run_assign) ?_
  refine WL.val rfl (run_assign) ?_
  refine WL.nil ?_
  repeat (first | refine CW.seq ?_ | refine CW.block ?_ | refine CW.skip ?_ | refine CW.label ?_ | refine CW.exit ?_ | refine CW.condT rfl ?_ | refine CW.condF rfl ?_)
  refine CW.reg ?_
  refine WL.val rfl (run_move) ?_
  refine WL.val rfl (run_nilCheck rfl) ?_
  refine WL.val rfl (run_field (o' := 1) Try.underlying98 rfl ty25 rfl rfl rfl) ?_
  refine WL.val rfl (run_load1 ty25 rfl (hs.c0 rfl)) ?_
  refine WL.val rfl (run_bF (run_neq rfl rfl) (by decide)) ?_
  refine WL.nil ?_
  repeat (first | refine CW.seq ?_ | refine CW.block ?_ | refine CW.skip ?_ | refine CW.label ?_ | refine CW.exit ?_ | refine CW.condT rfl ?_ | refine CW.condF rfl ?_)
  refine CW.reg ?_
  refine WL.val rfl (run_move) ?_
  refine WL.val rfl (run_nilCheck rfl) ?_
  refine WL.val rfl (run_field (o' := 0) Try.underlying98 rfl ty29 rfl rfl rfl) ?_
  refine WL.val rfl (run_load1 ty29 rfl (hs.c0 rfl)) ?_
  refine WL.enter rfl (run_call en66 rfl rfl) (clone_spec _ (hv.sl (L := []) (by rw [List.append_nil]; exact hs.tail)) (by omega)) ?_
  rintro e w ⟨v', Lv', rfl, hv', hq⟩
  refine ⟨_, rfl, ?_⟩
  refine WL.val rfl (run_assign) ?_
  refine WL.val rfl (run_assign) ?_
  refine WL.nil ?_
  repeat (first | refine CW.seq ?_ | refine CW.block ?_ | refine CW.skip ?_ | refine CW.label ?_ | refine CW.exit ?_ | refine CW.condT rfl ?_ | refine CW.condF rfl ?_)
  refine CW.ret ?_
  refine fin_ret2 rfl ?_
  exact ⟨v', Lv', rfl, hv', hq⟩

def frontB (l : List UInt8) : List UInt8 := (l.reverse.dropWhile (· == 0)).reverse
theorem frontB_of {l : List UInt8} {n : Nat} (hn : n ≤ l.length) (hz : ∀ j, n ≤ j → (h : j < l.length) → l[j] = 0) (he : n = 0 ∨ ∃ h : n - 1 < l.length, l[n - 1] ≠ 0) : frontB l = l.take n := by
  have e : l = l.take n ++ List.replicate (l.length - n) 0 := by
    apply List.ext_getElem
    · simp; omega
    · intro j h1 h2
      by_cases hj : j < n
      · rw [List.getElem_append_left (by simp; omega)]; simp
      · rw [List.getElem_append_right (by simp; omega), List.getElem_replicate]
        exact hz j (by omega) h1
  have hdw : ∀ (k : Nat) (r : List UInt8), (List.replicate k 0 ++ r).dropWhile (· == 0) = r.dropWhile (· == 0) := by
    intro k r
    induction k with
    | zero => rfl
    | succ k ih => rw [List.replicate_succ, List.cons_append, List.dropWhile_cons_of_pos (by rfl)]; exact ih
  unfold frontB
  conv => lhs; rw [e]
  rw [List.reverse_append, List.reverse_replicate, hdw]
  rcases he with rfl | ⟨h, hne⟩
  · simp
  · obtain ⟨m, rfl⟩ : ∃ m, n = m + 1 := ⟨n - 1, by
      rcases Nat.eq_zero_or_pos n with h0 | h0
      · subst h0
        exact absurd (hz 0 (Nat.le_refl _) (by omega)) hne
      · omega⟩
    rw [List.take_succ_eq_append_getElem (by omega), List.reverse_append, List.reverse_singleton, List.singleton_append, List.dropWhile_cons_of_neg (by simpa using hne)]
    simp
theorem frontB_len (l : List UInt8) : (frontB l).length ≤ l.length := by
  unfold frontB
  rw [List.length_reverse]
  have := (List.dropWhile_sublist (p := (· == 0)) (l := l.reverse)).length_le
  simpa using this

theorem front_spec {l : List UInt8} (w0 : World) (hl : l.length = 32) : Calls Try.prog 40 #[.agg (u8s l).toArray] w0 fun e w' => ∃ b, e = .returned (.slice (some ⟨b, 0, none⟩) (frontB l).length 32) ∧ Step [] [(b, blk 46 (u8s l))] w0 w' ∧ Sl w' 1 (.slice (some ⟨b, 0, none⟩) (frontB l).length 32) (frontB l).length (u8s (frontB l)) := by
  have hs : Step [] [] w0 w0 := Step.refl w0
  refine calls (n := 17) Try.func40 rfl rfl rfl ?_
  repeat (first | refine CW.seq ?_ | refine CW.block ?_ | refine CW.skip ?_ | refine CW.label ?_ | refine CW.exit ?_ | refine CW.condT rfl ?_ | refine CW.condF rfl ?_)
  refine CW.reg ?_
  refine WL.box (cs := u8s l) rfl rfl rfl hs (fun b1 w hs => ?_)
  refine WL.val rfl (run_assign) ?_
  refine WL.nil ?_
  repeat (first | refine CW.seq ?_ | refine CW.block ?_ | refine CW.skip ?_ | refine CW.label ?_ | refine CW.exit ?_ | refine CW.condT rfl ?_ | refine CW.condF rfl ?_)
  refine CW.reg ?_
  refine WL.val rfl (run_assign) ?_
  refine WL.nil ?_
  repeat (first | refine CW.seq ?_ | refine CW.block ?_ | refine CW.skip ?_ | refine CW.label ?_ | refine CW.exit ?_ | refine CW.condT rfl ?_ | refine CW.condF rfl ?_)
  refine CW.loop (fun m f w' => ∃ k, k ≤ 32 ∧ k = m ∧ (∀ j, k ≤ j → (h : j < l.length) → l[j] = 0) ∧ Step [] [(b1, blk 46 (u8s l))] w0 w' ∧ Holds f [(1, .pointer (some ⟨b1, 0, none⟩)), (3, .int .i64 k)]) (m := 32) ?_ ?_
  · exact ⟨32, by omega, rfl, fun j h1 h2 => by omega, hs, rfl, rfl, trivial⟩
  · rintro m f w ⟨k, hk, rfl, hz, hs, hf⟩
    have hobt := hf.chain
    obtain ⟨g, rfl⟩ := hobt
    by_cases h0 : k = 0
    · have hx : k = 0 ∨ ∃ h : k - 1 < l.length, l[k - 1] ≠ 0 := .inl h0
      repeat (first | refine CW.seq ?_ | refine CW.block ?_ | refine CW.skip ?_ | refine CW.label ?_ | refine CW.exit ?_ | refine CW.condT rfl ?_ | refine CW.condF rfl ?_)
      refine CW.reg ?_
      refine WL.val rfl (run_move) ?_
      refine WL.val rfl (run_bF (run_gtr rfl rfl) (by omega)) ?_
      refine WL.val rfl (run_move) ?_
      first | refine WL.no rfl rfl rfl (.inl rfl) ?_ | refine WL.no rfl rfl rfl (.inr rfl) ?_
      first | refine WL.no rfl rfl rfl (.inl rfl) ?_ | refine WL.no rfl rfl rfl (.inr rfl) ?_
      first | refine WL.no rfl rfl rfl (.inl rfl) ?_ | refine WL.no rfl rfl rfl (.inr rfl) ?_
      first | refine WL.no rfl rfl rfl (.inl rfl) ?_ | refine WL.no rfl rfl rfl (.inr rfl) ?_
      first | refine WL.no rfl rfl rfl (.inl rfl) ?_ | refine WL.no rfl rfl rfl (.inr rfl) ?_
      first | refine WL.val rfl (run_pickT rfl) ?_ | refine WL.val rfl (run_pickF rfl) ?_
      refine WL.nil ?_
      repeat (first | refine CW.seq ?_ | refine CW.block ?_ | refine CW.skip ?_ | refine CW.label ?_ | refine CW.exit ?_ | refine CW.condT rfl ?_ | refine CW.condF rfl ?_)
      refine CW.reg ?_
      refine WL.val rfl (run_move) ?_
      refine WL.val rfl (run_sliceArr  Try.underlying46 ty5 rfl rfl rfl (by omega) (by omega)) ?_
      refine WL.val rfl (run_assign) ?_
      refine WL.nil ?_
      repeat (first | refine CW.seq ?_ | refine CW.block ?_ | refine CW.skip ?_ | refine CW.label ?_ | refine CW.exit ?_ | refine CW.condT rfl ?_ | refine CW.condF rfl ?_)
      refine CW.ret ?_
      refine fin_ret1 rfl ?_
      have e := frontB_of (l := l) (n := k) (by omega) hz hx
      refine ⟨b1, ?_, hs, .mk (by simp [u8s]) ?_⟩
      · rw [e, List.length_take, hl, Nat.min_eq_left hk]
        rfl
      · rw [e, show u8s (l.take k) = (u8s l).take k by simp [u8s, List.map_take]]
        exact hs.a0.take k
    · have hlt : k - 1 < l.length := by omega
      have hcell : (u8s l)[k - 1]? = some (.int .u8 (l[k - 1]).toNat) := by simp [u8s, List.getElem?_eq_getElem hlt]
      by_cases hc : l[k - 1] = 0
      · repeat (first | refine CW.seq ?_ | refine CW.block ?_ | refine CW.skip ?_ | refine CW.label ?_ | refine CW.exit ?_ | refine CW.condT rfl ?_ | refine CW.condF rfl ?_)
        refine CW.reg ?_
        refine WL.val rfl (run_move) ?_
        refine WL.val rfl (run_bT (run_gtr rfl rfl) (by omega)) ?_
        refine WL.val rfl (run_move) ?_
        refine WL.yes rfl rfl rfl ?_
        refine WL.val rfl (run_move) ?_
        refine WL.yes rfl rfl rfl ?_
        refine WL.val rfl (run_sub (c := ((k - 1 : Nat) : Int)) rfl rfl (by omega) (by omega)) ?_
        refine WL.yes rfl rfl rfl ?_
        first | refine WL.val rfl (run_ixArrN Try.underlying46 ty5 rfl rfl (by omega)) ?_ | refine WL.val rfl (run_ixArr Try.underlying46 ty5 rfl rfl (by omega)) ?_
        refine WL.yes rfl rfl rfl ?_
        refine WL.val rfl (run_load1 ty5 rfl (hs.c0 (by rw [Nat.zero_add, Nat.mul_one]; exact hcell))) ?_
        refine WL.yes rfl rfl rfl ?_
        refine WL.val rfl (run_bT (run_eql rfl rfl) (by rw [hc]; rfl)) ?_
        first | refine WL.val rfl (run_pickT rfl) ?_ | refine WL.val rfl (run_pickF rfl) ?_
        refine WL.nil ?_
        repeat (first | refine CW.seq ?_ | refine CW.block ?_ | refine CW.skip ?_ | refine CW.label ?_ | refine CW.exit ?_ | refine CW.condT rfl ?_ | refine CW.condF rfl ?_)
        refine CW.reg ?_
        refine WL.val rfl (run_move) ?_
        refine WL.val rfl (run_sub (c := ((k - 1 : Nat) : Int)) rfl rfl (by omega) (by omega)) ?_
        refine WL.val rfl (run_assign) ?_
        refine WL.nil ?_
        repeat (first | refine CW.seq ?_ | refine CW.block ?_ | refine CW.skip ?_ | refine CW.label ?_ | refine CW.exit ?_)
        refine (show _ ∧ _ from ⟨rfl, _, ?_, k - 1, by omega, rfl, ?_, hs, rfl, rfl, trivial⟩)
        · omega
        · intro j h1 h2
          by_cases hj : j = k - 1
          · subst hj; exact hc
          · exact hz j (by omega) h2
      · have hx : k = 0 ∨ ∃ h : k - 1 < l.length, l[k - 1] ≠ 0 := .inr ⟨hlt, hc⟩
        have hc' : ¬ ((l[k - 1].toNat : Int) = 0) := fun h => hc (UInt8.toNat_inj.1 (by simpa using h))
        repeat (first | refine CW.seq ?_ | refine CW.block ?_ | refine CW.skip ?_ | refine CW.label ?_ | refine CW.exit ?_ | refine CW.condT rfl ?_ | refine CW.condF rfl ?_)
        refine CW.reg ?_
        refine WL.val rfl (run_move) ?_
        refine WL.val rfl (run_bT (run_gtr rfl rfl) (by omega)) ?_
        refine WL.val rfl (run_move) ?_
        refine WL.yes rfl rfl rfl ?_
        refine WL.val rfl (run_move) ?_
        refine WL.yes rfl rfl rfl ?_
        refine WL.val rfl (run_sub (c := ((k - 1 : Nat) : Int)) rfl rfl (by omega) (by omega)) ?_
        refine WL.yes rfl rfl rfl ?_
        first | refine WL.val rfl (run_ixArrN Try.underlying46 ty5 rfl rfl (by omega)) ?_ | refine WL.val rfl (run_ixArr Try.underlying46 ty5 rfl rfl (by omega)) ?_
        refine WL.yes rfl rfl rfl ?_
        refine WL.val rfl (run_load1 ty5 rfl (hs.c0 (by rw [Nat.zero_add, Nat.mul_one]; exact hcell))) ?_
        refine WL.yes rfl rfl rfl ?_
        refine WL.val rfl (run_bF (run_eql rfl rfl) (by exact hc')) ?_
        first | refine WL.val rfl (run_pickT rfl) ?_ | refine WL.val rfl (run_pickF rfl) ?_
        refine WL.nil ?_
        repeat (first | refine CW.seq ?_ | refine CW.block ?_ | refine CW.skip ?_ | refine CW.label ?_ | refine CW.exit ?_ | refine CW.condT rfl ?_ | refine CW.condF rfl ?_)
        refine CW.reg ?_
        refine WL.val rfl (run_move) ?_
        refine WL.val rfl (run_sliceArr  Try.underlying46 ty5 rfl rfl rfl (by omega) (by omega)) ?_
        refine WL.val rfl (run_assign) ?_
        refine WL.nil ?_
        repeat (first | refine CW.seq ?_ | refine CW.block ?_ | refine CW.skip ?_ | refine CW.label ?_ | refine CW.exit ?_ | refine CW.condT rfl ?_ | refine CW.condF rfl ?_)
        refine CW.ret ?_
        refine fin_ret1 rfl ?_
        have e := frontB_of (l := l) (n := k) (by omega) hz hx
        refine ⟨b1, ?_, hs, .mk (by simp [u8s]) ?_⟩
        · rw [e, List.length_take, hl, Nat.min_eq_left hk]
          rfl
        · rw [e, show u8s (l.take k) = (u8s l).take k by simp [u8s, List.map_take]]
          exact hs.a0.take k

def entB (x : Ent) : List UInt8 := formB x.kind.toNat ++ (formB x.name.length ++ x.name) ++ (formB (frontB x.dig).length ++ frontB x.dig)
def encB (l : List Ent) : List UInt8 := formB 1 ++ formB l.length ++ l.flatMap entB

theorem errE_ok : ∀ (l : List Ent) (a : List UInt8), errE a l = 0 → ∀ x ∈ l, (x.kind = 2 ∨ x.kind = 1) ∧ isName x.name = true
  | [], _, _, x, hx => by cases hx
  | y :: l, a, h, x, hx => by
    simp only [errE] at h
    split at h
    · rename_i h1
      rcases List.mem_cons.1 hx with rfl | hx
      · unfold wrongE at h1
        split at h1
        · rename_i h2; exact ⟨h2.1, h2.2.1⟩
        · cases h1
      · exact errE_ok l y.name h x hx
    · rename_i h1; exact absurd h h1
theorem isName_len {s : List UInt8} (h : isName s = true) : s.length ≤ 64 := by
  simp only [isName, Bool.and_eq_true, decide_eq_true_eq] at h
  exact h.1.2.1
theorem entB_len {x : Ent} (hn : x.name.length ≤ 64) (hd : x.dig.length = 32) : (entB x).length ≤ 123 := by
  have h1 := formB_len x.kind.toNat
  have h2 := formB_len x.name.length
  have h3 := formB_len (frontB x.dig).length
  have h4 := frontB_len x.dig
  simp only [entB, List.length_append]
  omega

theorem add_ok {c : List UInt8} {ps : List (List UInt8)} (h : c.length + ps.flatten.length ≤ 4194304) : addF c 0 ps = 0 ∧ addC c 0 ps = c ++ ps.flatten := by
  have e1 : addF c 0 ps = 0 := by unfold addF; rw [if_neg (fun h' => by omega)]
  exact ⟨e1, by unfold addC; rw [e1, if_pos rfl]⟩

theorem num_ok {b : Nat} {c : List UInt8} {Lw : List (Nat × Obj)} {m : Int} (n : Nat) (hm : m = n) (w0 : World) (hn : n ≤ 9223372036854775807) (hW : Wr b c 0 Lw) (hO : Step (Lw.map (·.1)) Lw w0 w0) (hcap : c.length ≤ 4000000) :
    Calls Try.prog 37 #[.pointer (some ⟨b, 0, none⟩), .int .i64 m] w0 fun e w' => e = .returned (.tuple #[]) ∧ ∃ Lw', Wr b (c ++ formB n) 0 Lw' ∧ Step (Lw.map (·.1)) Lw' w0 w' := by
  subst hm
  have hf := formB_len n
  have hobt := add_ok (c := c) (ps := [formB n]) (by simp; omega)
  obtain ⟨h1, h2⟩ := hobt
  have := num_spec n w0 hn hW hO (by omega)
  rw [h1, h2] at this
  simpa using this
theorem bytes_ok {b : Nat} {c : List UInt8} {Lw : List (Nat × Obj)} {u : Value} {s : List UInt8} (w0 : World) (hW : Wr b c 0 Lw) (hO : Step (Lw.map (·.1)) Lw w0 w0) (hcap : c.length ≤ 4000000) (hu : Sl w0 1 u s.length (u8s s)) (hout : Outside u (Lw.map (·.1))) (hsl : s.length ≤ 64) :
    Calls Try.prog 39 #[.pointer (some ⟨b, 0, none⟩), u] w0 fun e w' => e = .returned (.tuple #[]) ∧ ∃ Lw', Wr b (c ++ (formB s.length ++ s)) 0 Lw' ∧ Step (Lw.map (·.1)) Lw' w0 w' := by
  have hf := formB_len s.length
  have hobt := add_ok (c := c) (ps := [formB s.length, s]) (by simp; omega)
  obtain ⟨h1, h2⟩ := hobt
  have := bytes_spec w0 hW hO (by omega) hu hout (by omega)
  rw [h1, h2] at this
  simpa using this
theorem text_ok {b : Nat} {c : List UInt8} {Lw : List (Nat × Obj)} {s : List UInt8} (w0 : World) (hW : Wr b c 0 Lw) (hO : Step (Lw.map (·.1)) Lw w0 w0) (hcap : c.length ≤ 4000000) (hsl : s.length ≤ 64) :
    Calls Try.prog 38 #[.pointer (some ⟨b, 0, none⟩), str s] w0 fun e w' => e = .returned (.tuple #[]) ∧ ∃ Lw', Wr b (c ++ (formB s.length ++ s)) 0 Lw' ∧ Step (Lw.map (·.1)) Lw' w0 w' := by
  have hf := formB_len s.length
  have hobt := add_ok (c := c) (ps := [formB s.length, s]) (by simp; omega)
  obtain ⟨h1, h2⟩ := hobt
  have := text_spec w0 hW hO (by omega) (by omega : s.length ≤ _)
  rw [h1, h2] at this
  simpa using this

theorem encB_len : ∀ {l : List Ent}, Oks l → (∀ x ∈ l, x.name.length ≤ 64) → (l.flatMap entB).length ≤ l.length * 123
  | [], _, _ => by simp
  | x :: l, ho, hn => by
    have ih := encB_len (l := l) (fun y hy => ho y (by simp [hy])) (fun y hy => hn y (by simp [hy]))
    have h1 := entB_len (hn x (by simp)) (ho x (by simp)).1
    simp only [List.flatMap_cons, List.length_append, List.length_cons]
    omega

theorem encode_bad {v : Value} {l : List Ent} (w0 : World) (hl : Es w0 v l) (hc : checkE l ≠ 0) : Calls Try.prog 16 #[v] w0 (Ret0 (.tuple #[.slice none 0 0, .int .i64 (checkE l)]) w0) := by
  have hs : Step [] [] w0 w0 := Step.refl w0
  refine calls (n := 44) Try.func16 rfl rfl rfl ?_
  repeat (first | refine CW.seq ?_ | refine CW.block ?_ | refine CW.skip ?_ | refine CW.label ?_ | refine CW.exit ?_ | refine CW.condT rfl ?_ | refine CW.condF rfl ?_)
  refine CW.reg ?_
  refine WL.val rfl (run_assign) ?_
  refine WL.val rfl (run_assign) ?_
  refine WL.nil ?_
  repeat (first | refine CW.seq ?_ | refine CW.block ?_ | refine CW.skip ?_ | refine CW.label ?_ | refine CW.exit ?_ | refine CW.condT rfl ?_ | refine CW.condF rfl ?_)
  refine CW.reg ?_
  refine WL.val rfl (run_move) ?_
  refine WL.enter rfl (run_call en13 rfl rfl) (check_spec rfl _ hl) ?_
  rintro e w ⟨rfl, hq⟩
  refine ⟨_, rfl, ?_⟩
  refine WL.val rfl (run_assign) ?_
  refine WL.nil ?_
  repeat (first | refine CW.seq ?_ | refine CW.block ?_ | refine CW.skip ?_ | refine CW.label ?_ | refine CW.exit ?_ | refine CW.condT rfl ?_ | refine CW.condF rfl ?_)
  refine CW.reg ?_
  refine WL.val rfl (run_move) ?_
  refine WL.val rfl (run_bT (run_neq rfl rfl) (by exact hc)) ?_
  refine WL.nil ?_
  repeat (first | refine CW.seq ?_ | refine CW.block ?_ | refine CW.skip ?_ | refine CW.label ?_ | refine CW.exit ?_ | refine CW.condT rfl ?_ | refine CW.condF rfl ?_)
  refine CW.reg ?_
  refine WL.val rfl (run_move) ?_
  refine WL.val rfl (run_assign) ?_
  refine WL.val rfl (run_assign) ?_
  refine WL.nil ?_
  repeat (first | refine CW.seq ?_ | refine CW.block ?_ | refine CW.skip ?_ | refine CW.label ?_ | refine CW.exit ?_ | refine CW.condT rfl ?_ | refine CW.condF rfl ?_)
  refine CW.ret ?_
  refine fin_ret2 rfl ?_
  exact ⟨rfl, hs.callE hq⟩

theorem encode_ok {v : Value} {l : List Ent} (w0 : World) (hl : Es w0 v l) (hc : checkE l = 0) : Calls Try.prog 16 #[v] w0 fun e w' => ∃ v' Lv, e = .returned (.tuple #[v', .int .i64 0]) ∧ OwnSl 5 1 v' (encB l).length (u8s (encB l)) Lv ∧ Step [] Lv w0 w' := by
  have hs : Step [] [] w0 w0 := Step.refl w0
  have hlen : l.length ≤ 1024 := by
    unfold checkE at hc
    split at hc
    · cases hc
    · omega
  have herr : errE [] l = 0 := by
    unfold checkE at hc
    rw [if_neg (by omega)] at hc
    exact hc
  have hent := errE_ok l [] herr
  obtain ⟨a, c, rfl⟩ : ∃ a c, v = .slice a l.length c := by
    rcases hl.cases with ⟨_, c, rfl, rfl⟩ | ⟨b, off, c, rfl, _⟩ <;> exact ⟨_, _, rfl⟩
  have hf1 := formB_len 1
  have hf2 := formB_len l.length
  refine calls (n := 44) Try.func16 rfl rfl rfl ?_
  repeat (first | refine CW.seq ?_ | refine CW.block ?_ | refine CW.skip ?_ | refine CW.label ?_ | refine CW.exit ?_ | refine CW.condT rfl ?_ | refine CW.condF rfl ?_)
  refine CW.reg ?_
  refine WL.val rfl (run_assign) ?_
  refine WL.val rfl (run_assign) ?_
  refine WL.nil ?_
  repeat (first | refine CW.seq ?_ | refine CW.block ?_ | refine CW.skip ?_ | refine CW.label ?_ | refine CW.exit ?_ | refine CW.condT rfl ?_ | refine CW.condF rfl ?_)
  refine CW.reg ?_
  refine WL.val rfl (run_move) ?_
  refine WL.enter rfl (run_call en13 rfl rfl) (check_spec hc _ hl) ?_
  rintro e w ⟨rfl, hq⟩
  refine ⟨_, rfl, ?_⟩
  refine WL.val rfl (run_assign) ?_
  refine WL.nil ?_
  have hs := hs.callE hq
  repeat (first | refine CW.seq ?_ | refine CW.block ?_ | refine CW.skip ?_ | refine CW.label ?_ | refine CW.exit ?_ | refine CW.condT rfl ?_ | refine CW.condF rfl ?_)
  refine CW.reg ?_
  refine WL.val rfl (run_move) ?_
  refine WL.val rfl (run_bF (run_neq rfl rfl) (by decide)) ?_
  refine WL.nil ?_
  repeat (first | refine CW.seq ?_ | refine CW.block ?_ | refine CW.skip ?_ | refine CW.label ?_ | refine CW.exit ?_ | refine CW.condT rfl ?_ | refine CW.condF rfl ?_)
  refine CW.reg ?_
  refine WL.enter rfl (run_call en36 rfl rfl) (new_spec _) ?_
  rintro e w ⟨b5, Lw, rfl, hW, hq⟩
  refine ⟨_, rfl, ?_⟩
  refine WL.val rfl (run_assign) ?_
  refine WL.nil ?_
  have hs : Step [] (Lw ++ []) w0 w := hs.call0 hq
  repeat (first | refine CW.seq ?_ | refine CW.block ?_ | refine CW.skip ?_ | refine CW.label ?_ | refine CW.exit ?_ | refine CW.condT rfl ?_ | refine CW.condF rfl ?_)
  refine CW.reg ?_
  refine WL.val rfl (run_move) ?_
  refine WL.enter rfl (run_call en37 rfl rfl) (num_ok 1 rfl _ (by decide) hW hs.own (by simp)) ?_
  rintro e w ⟨rfl, Lw1, hW1, hq⟩
  refine ⟨_, rfl, ?_⟩
  refine WL.nil ?_
  have hs := hs.call hq
  repeat (first | refine CW.seq ?_ | refine CW.block ?_ | refine CW.skip ?_ | refine CW.label ?_ | refine CW.exit ?_ | refine CW.condT rfl ?_ | refine CW.condF rfl ?_)
  refine CW.reg ?_
  refine WL.val rfl (run_move) ?_
  refine WL.val rfl (run_move) ?_
  refine WL.val rfl (run_lenSl Try.underlying22 rfl) ?_
  refine WL.enter rfl (run_call en37 rfl rfl) (num_ok l.length rfl _ (by omega) hW1 hs.own (by simp; omega)) ?_
  rintro e w ⟨rfl, Lw2, hW2, hq⟩
  refine ⟨_, rfl, ?_⟩
  refine WL.nil ?_
  have hs : Step [] Lw2 w0 w := by have := hs.call hq; rwa [List.append_nil] at this
  repeat (first | refine CW.seq ?_ | refine CW.block ?_ | refine CW.skip ?_ | refine CW.label ?_ | refine CW.exit ?_ | refine CW.condT rfl ?_ | refine CW.condF rfl ?_)
  refine CW.reg ?_
  refine WL.val rfl (run_move) ?_
  refine WL.val rfl (run_lenSl Try.underlying22 rfl) ?_
  refine WL.val rfl (run_move) ?_
  refine WL.nil ?_
  repeat (first | refine CW.seq ?_ | refine CW.block ?_ | refine CW.skip ?_ | refine CW.label ?_ | refine CW.exit ?_ | refine CW.condT rfl ?_ | refine CW.condF rfl ?_)
  refine CW.loop (fun m f w' => ∃ k, k ≤ l.length ∧ m = l.length - k ∧ (∃ Lw, Wr b5 (formB 1 ++ formB l.length ++ (l.take k).flatMap entB) 0 Lw ∧ Step [] Lw w0 w') ∧ Holds f [(5, .pointer (some ⟨b5, 0, none⟩)), (20, .slice a l.length c), (21, .int .i64 l.length), (22, .int .i64 k)]) (m := l.length) ?_ ?_
  · exact ⟨0, by omega, by omega, ⟨Lw2, by simpa using hW2, hs⟩, rfl, rfl, rfl, rfl, trivial⟩
  · clear hs hW hW1 hW2
    rintro m f w ⟨k, hk, rfl, ⟨Lw, hW, hs⟩, hf⟩
    have hobt := hf.chain
    obtain ⟨g, rfl⟩ := hobt
    have hcl : (formB 1 ++ formB l.length ++ (l.take k).flatMap entB).length ≤ 200000 := by
      have := encB_len (l := l.take k) (hl.2.1.take k) (fun x hx => isName_len (hent x (List.mem_of_mem_take hx)).2)
      simp only [List.length_append]
      rw [List.length_take] at this
      have : min k l.length ≤ 1024 := by omega
      omega
    repeat (first | refine CW.seq ?_ | refine CW.block ?_ | refine CW.skip ?_ | refine CW.label ?_ | refine CW.exit ?_ | refine CW.condT rfl ?_ | refine CW.condF rfl ?_)
    refine CW.reg ?_
    refine WL.val rfl (run_lss rfl rfl) ?_
    refine WL.nil ?_
    repeat (first | refine CW.seq ?_ | refine CW.block ?_ | refine CW.skip ?_ | refine CW.label ?_ | refine CW.exit ?_)
    first | refine CW.condP rfl (fun h => ?_) (fun h => ?_) | refine CW.cond rfl (fun h => ?_) (fun h => ?_)
    · have hlt : k < l.length := by omega
      rcases hl.cases with ⟨_, c', hv', rfl⟩ | ⟨b, off, c', hv', hat⟩
      · simp at hlt
      have hok := hl.2.1.get hlt
      have hex := hent _ (List.getElem_mem hlt)
      have hnl := isName_len hex.2
      have hax := (hat.ent hl.2.1 hlt).step hs (by simp)
      obtain ⟨rfl, rfl⟩ : a = some ⟨b, off, none⟩ ∧ c = c' := by cases hv'; exact ⟨rfl, rfl⟩
      have hkind : (l[k]).kind = (((l[k]).kind.toNat : Nat) : Int) := by omega
      have hkb : (l[k]).kind.toNat ≤ 2 := by omega
      have hfk := formB_len (l[k]).kind.toNat
      have hfn := formB_len (l[k]).name.length
      repeat (first | refine CW.seq ?_ | refine CW.block ?_ | refine CW.skip ?_ | refine CW.label ?_ | refine CW.exit ?_ | refine CW.condT rfl ?_ | refine CW.condF rfl ?_)
      refine CW.reg ?_
      first | refine WL.val rfl (run_ixSlN Try.underlying22 ty48 rfl rfl (by omega)) ?_ | refine WL.val rfl (run_ixSl Try.underlying22 ty48 rfl rfl (by omega)) ?_
      refine WL.val rfl (run_loadN ty48 rfl (Ent.cells_len hok) hax) ?_
      refine WL.alloc ty48 rfl hs (fun b7 w hs => ?_)
      refine WL.storeAll ty48 rfl rfl (Ent.cells_len hok) (Ent.cells1 _) (hs) rfl (fun w hs => ?_)
      refine WL.nil ?_
      repeat (first | refine CW.seq ?_ | refine CW.block ?_ | refine CW.skip ?_ | refine CW.label ?_ | refine CW.exit ?_ | refine CW.condT rfl ?_ | refine CW.condF rfl ?_)
      refine CW.reg ?_
      refine WL.val rfl (run_move) ?_
      refine WL.val rfl (run_field (o' := 1) Try.underlying48 rfl ty3 rfl rfl rfl) ?_
      refine WL.val rfl (run_load1 ty3 rfl (hs.c0 rfl)) ?_
      refine WL.enter rfl (run_call en37 rfl rfl) (num_ok _ hkind _ (by omega) hW hs.rot1.own (by omega)) ?_
      rintro e w ⟨rfl, Lw1, hW1, hq⟩
      refine ⟨_, rfl, ?_⟩
      refine WL.nil ?_
      have hs := (hs.rot1.call hq).append_comm
      repeat (first | refine CW.seq ?_ | refine CW.block ?_ | refine CW.skip ?_ | refine CW.label ?_ | refine CW.exit ?_ | refine CW.condT rfl ?_ | refine CW.condF rfl ?_)
      refine CW.reg ?_
      refine WL.val rfl (run_move) ?_
      refine WL.val rfl (run_field (o' := 0) Try.underlying48 rfl ty9 rfl rfl rfl) ?_
      refine WL.val rfl (run_load1 ty9 rfl (hs.c0 rfl)) ?_
      refine WL.enter rfl (run_call en38 rfl rfl) (text_ok _ hW1 hs.rot1.own (by simp only [List.length_append] at *; omega) hnl) ?_
      rintro e w ⟨rfl, Lw2, hW2, hq⟩
      refine ⟨_, rfl, ?_⟩
      refine WL.nil ?_
      have hs := (hs.rot1.call hq).append_comm
      have hcd : At w b7 (0 + 2) (u8s (l[k]).dig) := hs.a0.drop 2
      repeat (first | refine CW.seq ?_ | refine CW.block ?_ | refine CW.skip ?_ | refine CW.label ?_ | refine CW.exit ?_ | refine CW.condT rfl ?_ | refine CW.condF rfl ?_)
      refine CW.reg ?_
      refine WL.val rfl (run_move) ?_
      refine WL.val rfl (run_field (o' := 2) Try.underlying48 rfl ty46 rfl rfl rfl) ?_
      refine WL.val rfl (run_loadN ty46 rfl (by rw [u8s_len]; exact hok.1) hcd) ?_
      refine WL.enter rfl (run_call en40 rfl rfl) (front_spec _ hok.1) ?_
      rintro e w ⟨bf, rfl, hq, hslf⟩
      refine ⟨_, rfl, ?_⟩
      have hs := hs.call0 hq
      have hs2 := Step.append_comm (L1 := [_, _]) hs
      refine WL.enter rfl (run_call en39 rfl rfl) (bytes_ok _ hW2 hs2.own (by simp only [List.length_append] at *; omega) hslf (hs.disj (L1 := [_, _]) _ (List.mem_cons_self ..)) (by have := frontB_len (l[k]).dig; rw [hok.1] at this; omega)) ?_
      rintro e w ⟨rfl, Lw3, hW3, hq⟩
      refine ⟨_, rfl, ?_⟩
      refine WL.nil ?_
      have hs := (hs2.call hq).dropR
      repeat (first | refine CW.seq ?_ | refine CW.block ?_ | refine CW.skip ?_ | refine CW.label ?_ | refine CW.exit ?_ | refine CW.condT rfl ?_ | refine CW.condF rfl ?_)
      refine CW.reg ?_
      refine WL.val rfl (run_add (c := ((k + 1 : Nat) : Int)) rfl rfl (by omega) (by omega)) ?_
      refine WL.val rfl (run_move) ?_
      refine WL.nil ?_
      repeat (first | refine CW.seq ?_ | refine CW.block ?_ | refine CW.skip ?_ | refine CW.label ?_ | refine CW.exit ?_)
      refine (show _ ∧ _ from ⟨rfl, _, ?_, k + 1, by omega, rfl, ⟨Lw3, ?_, hs⟩, rfl, rfl, rfl, rfl, trivial⟩)
      · omega
      · have e : (l.take (k + 1)).flatMap entB = (l.take k).flatMap entB ++ entB l[k] := by
          rw [List.take_succ_eq_append_getElem hlt, List.flatMap_append]
          simp
        rw [e]
        simpa [entB, List.append_assoc] using hW3
    · obtain rfl : k = l.length := by omega
      rw [List.take_length] at hW hcl
      repeat (first | refine CW.seq ?_ | refine CW.block ?_ | refine CW.skip ?_ | refine CW.label ?_ | refine CW.exit ?_ | refine CW.condT rfl ?_ | refine CW.condF rfl ?_)
      refine CW.reg ?_
      refine WL.val rfl (run_move) ?_
      refine WL.enter rfl (run_call en41 rfl rfl) (done_ok _ hW hs.own0 (by omega)) ?_
      rintro e w ⟨v', Lv', rfl, hv', hq⟩
      refine ⟨_, rfl, ?_⟩
      refine WL.val rfl (run_extract rfl rfl) ?_
      refine WL.val rfl (run_extract rfl rfl) ?_
      refine WL.val rfl (run_assign) ?_
      refine WL.val rfl (run_assign) ?_
      refine WL.nil ?_
      repeat (first | refine CW.seq ?_ | refine CW.block ?_ | refine CW.skip ?_ | refine CW.label ?_ | refine CW.exit ?_ | refine CW.condT rfl ?_ | refine CW.condF rfl ?_)
      refine CW.ret ?_
      refine fin_ret2 rfl ?_
      exact ⟨v', Lv', rfl, hv', (hs.clear.call0 hq).dropR⟩
end Go.Gx
