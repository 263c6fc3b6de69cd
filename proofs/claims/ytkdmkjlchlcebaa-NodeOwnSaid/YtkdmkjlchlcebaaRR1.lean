/- The document's Reader: number, num, take. -/
import Derived.Test.YtkdmkjlchlcebaaRead2
import Derived.Test.YtkdmkjlchlcebaaRef3
namespace Go.Gx
open Go.Proofs
set_option linter.unusedVariables false
set_option linter.unusedSimpArgs false
set_option maxRecDepth 100000

theorem nbF_up {u k : Nat} (hu : u < 256 ^ k) : ∀ m, k ≤ m → nbF u m ≤ k
  | 0, h => by unfold nbF; omega
  | m + 1, h => by
    unfold nbF
    by_cases hk : k = m + 1
    · split
      · exact Nat.le_trans (nbF_le u m) (by omega)
      · omega
    · rw [if_pos (Nat.div_eq_of_lt (Nat.lt_of_lt_of_le hu (Nat.pow_le_pow_right (by decide) (by omega))))]
      exact nbF_up hu m (by omega)
theorem nbF_lo {u k : Nat} (hu : 256 ^ k ≤ u) : ∀ m, k < m → k < nbF u m
  | m + 1, h => by
    unfold nbF
    split
    · rename_i hz
      by_cases hk : k = m
      · subst hk
        have := Nat.div_pos hu (Nat.pow_pos (by decide))
        omega
      · exact nbF_lo hu m (by omega)
    · omega
theorem beVal_cons (c : UInt8) (l : List UInt8) : beVal (c :: l) = c.toNat * 256 ^ l.length + beVal l := by
  have gen : ∀ (l : List UInt8) (a : Nat), l.foldl (fun u c => u * 256 + c.toNat) a = a * 256 ^ l.length + beVal l := by
    intro l
    induction l with
    | nil => intro a; simp [beVal]
    | cons d l ih =>
      intro a
      rw [List.foldl_cons, ih]
      unfold beVal
      rw [List.foldl_cons, ih (0 * 256 + d.toNat), List.length_cons, Nat.pow_succ]
      unfold beVal
      rw [Nat.add_mul]
      generalize List.foldl _ 0 l = z
      generalize 256 ^ l.length = y
      rw [Nat.zero_mul, Nat.zero_add, Nat.mul_assoc, Nat.mul_comm 256 y]
      omega
  unfold beVal
  rw [List.foldl_cons, gen]
  simp [beVal]
/-- The form of what these bytes are has this length just where the first is not 0. -/
theorem form_first {r : List UInt8} (hr : 0 < r.length) (hr8 : r.length ≤ 8) : ((formB (beVal r)).length = 1 + r.length) ↔ ¬ (r[0] = 0 ∨ beVal r < 248) := by
  have hlt := beVal_lt r
  unfold formB
  split
  · rename_i h
    constructor
    · intro h1
      have h1 : 1 = 1 + r.length := h1
      omega
    · intro h1; exact absurd (.inr h) h1
  · rename_i h
    rw [List.length_cons, be_len]
    have hup := nbF_up hlt 8 hr8
    match r, hr with
    | c :: l, _ =>
      have hc := beVal_cons c l
      simp only [List.length_cons, List.getElem_cons_zero] at *
      by_cases h0 : c = 0
      · subst h0
        have hlt2 := beVal_lt l
        have hz : beVal ((0 : UInt8) :: l) = beVal l := by rw [hc]; simp
        have := nbF_up (u := beVal ((0 : UInt8) :: l)) (by rw [hz]; exact hlt2) 8 (by omega)
        constructor
        · intro h1; omega
        · intro h1; exact absurd (.inl rfl) h1
      · have hpos : 1 ≤ c.toNat := by
          rcases Nat.eq_zero_or_pos c.toNat with h1 | h1
          · exact absurd (UInt8.toNat_inj.1 (by simpa using h1)) h0
          · exact h1
        have hge : 256 ^ l.length ≤ beVal (c :: l) := by
          rw [hc]
          have := Nat.mul_le_mul_right (256 ^ l.length) hpos
          omega
        have := nbF_lo hge 8 (by omega)
        constructor
        · intro _ h1
          rcases h1 with h1 | h1
          · exact h0 h1
          · exact h h1
        · intro _; omega

def RRB (b : Nat) (bv : Value) (p : Nat) (e : Int) : Nat × Obj := (b, blk 85 [bv, .int .i64 p, .int .i64 e])
structure RrOk (w : World) (b : Nat) (bs : List UInt8) (bv : Value) (p : Nat) : Prop where
  own : Step [b] [RRB b bv p 0] w w
  sl : Sl w 1 bv bs.length (u8s bs)
  out : bs = [] ∨ Outside bv [b]
  room : Room bv
  len : bs.length ≤ 1048576
def RrN (b : Nat) (bv : Value) (p : Nat) (w0 : World) (k : Nat → Value) : Except Int (Nat × Nat) → Ending → World → Prop
  | .ok (u, q), e, w' => e = .returned (.tuple #[k u, .int .i64 (q - p : Nat)]) ∧ Step [b] [RRB b bv p 0] w0 w'
  | .error er, e, w' => e = .returned (.tuple #[k 0, .int .i64 0]) ∧ Step [b] [RRB b bv p er] w0 w'
theorem RrN.ok {b p : Nat} {bv : Value} {w0 w' : World} {k : Nat → Value} {e : Ending} {r : Except Int (Nat × Nat)} {u q : Nat} (hr : r = .ok (u, q)) (he : e = .returned (.tuple #[k u, .int .i64 (q - p : Nat)])) (hs : Step [b] [RRB b bv p 0] w0 w') : RrN b bv p w0 k r e w' := by subst hr; exact ⟨he, hs⟩
theorem RrN.err {b p : Nat} {bv : Value} {w0 w' : World} {k : Nat → Value} {e : Ending} {r : Except Int (Nat × Nat)} {er : Int} (hr : r = .error er) (he : e = .returned (.tuple #[k 0, .int .i64 0])) (hs : Step [b] [RRB b bv p er] w0 w') : RrN b bv p w0 k r e w' := by subst hr; exact ⟨he, hs⟩

theorem numberR_at {b p : Nat} {bs : List UInt8} {bv : Value} {r : Except Int (Nat × Nat)} (hr : numberP bs p = r) (w0 : World) (h : RrOk w0 b bs bv p) (hpl : p ≤ bs.length) : Calls Try.prog 73 #[.pointer (some ⟨b, 0, none⟩)] w0 (RrN b bv p w0 (fun u => .int .u64 u) r) := by
  have hs := h.own
  have hlen := h.len
  unfold RRB at hs
  by_cases hp : bs.length ≤ p
  · have e : r = .error 11 := by rw [← hr]; unfold numberP; rw [if_pos hp]
    obtain ⟨a, c, rfl⟩ : ∃ a c, bv = .slice a bs.length c := by
      have hobt := h.sl
      obtain ⟨_, ⟨_, c, rfl, h0⟩ | ⟨bb, off, c, rfl, _⟩⟩ := hobt
      · exact ⟨_, _, by rw [h0]⟩
      · exact ⟨_, _, rfl⟩
    refine calls (n := 87) Try.func73 rfl rfl rfl ?_
    repeat (first | refine CW.seq ?_ | refine CW.block ?_ | refine CW.skip ?_ | refine CW.label ?_ | refine CW.exit ?_ | refine CW.condT rfl ?_ | refine CW.condF rfl ?_)
    refine CW.reg ?_
    refine WL.val rfl (run_assign) ?_
    refine WL.val rfl (run_assign) ?_
    refine WL.nil ?_
    repeat (first | refine CW.seq ?_ | refine CW.block ?_ | refine CW.skip ?_ | refine CW.label ?_ | refine CW.exit ?_ | refine CW.condT rfl ?_ | refine CW.condF rfl ?_)
    refine CW.quiet mixedP (by kernel_rfl) hs ?_
    refine QL.val rfl (fun w hs => run_move) ?_
    refine QL.val rfl (fun w hs => run_nilCheck rfl) ?_
    refine QL.val rfl (fun w hs => run_field (o' := 1) Try.underlying85 rfl ty3 rfl rfl rfl) ?_
    refine QL.val rfl (fun w hs => run_load1 ty3 rfl (hs.c0 rfl)) ?_
    refine QL.val rfl (fun w hs => run_move) ?_
    refine QL.val rfl (fun w hs => run_nilCheck rfl) ?_
    refine QL.val rfl (fun w hs => run_field (o' := 0) Try.underlying85 rfl ty29 rfl rfl rfl) ?_
    refine QL.val rfl (fun w hs => run_load1 ty29 rfl (hs.c0 rfl)) ?_
    refine QL.val rfl (fun w hs => run_lenSl Try.underlying29 rfl) ?_
    refine QL.val rfl (fun w hs => run_bT (run_geq rfl rfl) (by omega)) ?_
    refine QL.nil (fun w hs => ?_)
    repeat (first | refine CW.seq ?_ | refine CW.block ?_ | refine CW.skip ?_ | refine CW.label ?_ | refine CW.exit ?_ | refine CW.condT rfl ?_ | refine CW.condF rfl ?_)
    refine CW.reg ?_
    refine WL.val rfl (run_move) ?_
    refine WL.val rfl (run_nilCheck rfl) ?_
    refine WL.val rfl (run_field (o' := 2) Try.underlying85 rfl ty3 rfl rfl rfl) ?_
    refine WL.store1 ty3 rfl rfl (rfl) (hs) (by first | (simp; done) | omega | (simp only [List.length_append, List.length_replicate, List.length_cons, List.length_nil, List.length_set]; omega) | (simp [Ent.cells, u8s]; done) | exact Nat.le_of_ble_eq_true rfl) (fun w hs => ?_)
    refine WL.nil ?_
    repeat (first | refine CW.seq ?_ | refine CW.block ?_ | refine CW.skip ?_ | refine CW.label ?_ | refine CW.exit ?_ | refine CW.condT rfl ?_ | refine CW.condF rfl ?_)
    refine CW.reg ?_
    refine WL.val rfl (run_assign) ?_
    refine WL.val rfl (run_assign) ?_
    refine WL.nil ?_
    repeat (first | refine CW.seq ?_ | refine CW.block ?_ | refine CW.skip ?_ | refine CW.label ?_ | refine CW.exit ?_ | refine CW.condT rfl ?_ | refine CW.condF rfl ?_)
    refine CW.ret ?_
    refine fin_ret2 rfl ?_
    exact .err e rfl hs
  · have hp' : p < bs.length := by omega
    have hg := getD_of hp'
    have hcl := (bs[p]).toNat_lt
    have hne : bs ≠ [] := fun e => by rw [e] at hp'; simp at hp'
    have hobt := id h.sl
    obtain ⟨_, ⟨_, c, rfl, h0⟩ | ⟨bb, off, c, rfl, hat⟩⟩ := hobt
    · omega
    have hbb : bb ∉ [b] := h.out.resolve_left hne
    have hat1 : ∀ {w : World} {L : List (Nat × Obj)}, Step [b] L w0 w → At w bb off (u8s bs) := fun hs => hat.step hs hbb
    have hcell : ∀ {w : World} {L : List (Nat × Obj)} {i : Nat} (hi : i < bs.length), Step [b] L w0 w → w.cell? ⟨bb, off + i * 1, none⟩ = some (.int .u8 (bs[i]).toNat) := fun {w L i} hi hs => by
      rw [Nat.mul_one]; exact (hat1 hs).cell (by simp [u8s, hi])
    by_cases hc : (bs[p]).toNat < 248
    · have e : r = .ok ((bs[p]).toNat, p + 1) := by rw [← hr]; unfold numberP; rw [if_neg hp, hg, if_pos hc]
      refine calls (n := 87) Try.func73 rfl rfl rfl ?_
      repeat (first | refine CW.seq ?_ | refine CW.block ?_ | refine CW.skip ?_ | refine CW.label ?_ | refine CW.exit ?_ | refine CW.condT rfl ?_ | refine CW.condF rfl ?_)
      refine CW.reg ?_
      refine WL.val rfl (run_assign) ?_
      refine WL.val rfl (run_assign) ?_
      refine WL.nil ?_
      repeat (first | refine CW.seq ?_ | refine CW.block ?_ | refine CW.skip ?_ | refine CW.label ?_ | refine CW.exit ?_ | refine CW.condT rfl ?_ | refine CW.condF rfl ?_)
      refine CW.quiet mixedP (by kernel_rfl) hs ?_
      refine QL.val rfl (fun w hs => run_move) ?_
      refine QL.val rfl (fun w hs => run_nilCheck rfl) ?_
      refine QL.val rfl (fun w hs => run_field (o' := 1) Try.underlying85 rfl ty3 rfl rfl rfl) ?_
      refine QL.val rfl (fun w hs => run_load1 ty3 rfl (hs.c0 rfl)) ?_
      refine QL.val rfl (fun w hs => run_move) ?_
      refine QL.val rfl (fun w hs => run_nilCheck rfl) ?_
      refine QL.val rfl (fun w hs => run_field (o' := 0) Try.underlying85 rfl ty29 rfl rfl rfl) ?_
      refine QL.val rfl (fun w hs => run_load1 ty29 rfl (hs.c0 rfl)) ?_
      refine QL.val rfl (fun w hs => run_lenSl Try.underlying29 rfl) ?_
      refine QL.val rfl (fun w hs => run_bF (run_geq rfl rfl) (by omega)) ?_
      refine QL.nil (fun w hs => ?_)
      repeat (first | refine CW.seq ?_ | refine CW.block ?_ | refine CW.skip ?_ | refine CW.label ?_ | refine CW.exit ?_ | refine CW.condT rfl ?_ | refine CW.condF rfl ?_)
      refine CW.quiet mixedP (by kernel_rfl) hs ?_
      refine QL.val rfl (fun w hs => run_move) ?_
      refine QL.val rfl (fun w hs => run_nilCheck rfl) ?_
      refine QL.val rfl (fun w hs => run_field (o' := 0) Try.underlying85 rfl ty29 rfl rfl rfl) ?_
      refine QL.val rfl (fun w hs => run_load1 ty29 rfl (hs.c0 rfl)) ?_
      refine QL.val rfl (fun w hs => run_move) ?_
      refine QL.val rfl (fun w hs => run_nilCheck rfl) ?_
      refine QL.val rfl (fun w hs => run_field (o' := 1) Try.underlying85 rfl ty3 rfl rfl rfl) ?_
      refine QL.val rfl (fun w hs => run_load1 ty3 rfl (hs.c0 rfl)) ?_
      first | refine QL.val rfl (fun w hs => run_ixSlN Try.underlying29 ty5 rfl rfl (by omega)) ?_ | refine QL.val rfl (fun w hs => run_ixSl Try.underlying29 ty5 rfl rfl (by omega)) ?_
      refine QL.val rfl (fun w hs => run_load1 ty5 rfl (hcell hp' hs)) ?_
      first | refine QL.val rfl (fun w hs => run_convI64 Try.underlying5 Try.underlying3 rfl (by omega)) ?_ | refine QL.val rfl (fun w hs => run_convInt Try.underlying5 Try.underlying3 rfl) ?_
      refine QL.val rfl (fun w hs => run_assign) ?_
      refine QL.nil (fun w hs => ?_)
      repeat (first | refine CW.seq ?_ | refine CW.block ?_ | refine CW.skip ?_ | refine CW.label ?_ | refine CW.exit ?_ | refine CW.condT rfl ?_ | refine CW.condF rfl ?_)
      refine CW.reg ?_
      refine WL.val rfl (run_move) ?_
      refine WL.val rfl (run_bT (run_leq rfl rfl) (by omega)) ?_
      refine WL.nil ?_
      repeat (first | refine CW.seq ?_ | refine CW.block ?_ | refine CW.skip ?_ | refine CW.label ?_ | refine CW.exit ?_ | refine CW.condT rfl ?_ | refine CW.condF rfl ?_)
      refine CW.reg ?_
      refine WL.val rfl (run_move) ?_
      first | refine WL.val rfl (run_convU64 Try.underlying3 Try.underlying101 rfl (by omega)) ?_ | refine WL.val rfl (run_convInt Try.underlying3 Try.underlying101 rfl) ?_
      refine WL.val rfl (run_assign) ?_
      refine WL.val rfl (run_assign) ?_
      refine WL.nil ?_
      repeat (first | refine CW.seq ?_ | refine CW.block ?_ | refine CW.skip ?_ | refine CW.label ?_ | refine CW.exit ?_ | refine CW.condT rfl ?_ | refine CW.condF rfl ?_)
      refine CW.ret ?_
      refine fin_ret2 rfl ?_
      exact .ok e (by rw [show p + 1 - p = 1 by omega]; rfl) hs
    · have hobt : ∃ k, (bs[p]).toNat - 247 = k := ⟨_, rfl⟩
      obtain ⟨k, hk⟩ := hobt
      have hk1 : 1 ≤ k ∧ k ≤ 8 := by omega
      by_cases hk2 : bs.length < p + 1 + k
      · have e : r = .error 11 := by rw [← hr]; unfold numberP; rw [if_neg hp, hg, if_neg hc, hk, if_pos hk2]
        refine calls (n := 87) Try.func73 rfl rfl rfl ?_
        repeat (first | refine CW.seq ?_ | refine CW.block ?_ | refine CW.skip ?_ | refine CW.label ?_ | refine CW.exit ?_ | refine CW.condT rfl ?_ | refine CW.condF rfl ?_)
        refine CW.reg ?_
        refine WL.val rfl (run_assign) ?_
        refine WL.val rfl (run_assign) ?_
        refine WL.nil ?_
        repeat (first | refine CW.seq ?_ | refine CW.block ?_ | refine CW.skip ?_ | refine CW.label ?_ | refine CW.exit ?_ | refine CW.condT rfl ?_ | refine CW.condF rfl ?_)
        refine CW.quiet mixedP (by kernel_rfl) hs ?_
        refine QL.val rfl (fun w hs => run_move) ?_
        refine QL.val rfl (fun w hs => run_nilCheck rfl) ?_
        refine QL.val rfl (fun w hs => run_field (o' := 1) Try.underlying85 rfl ty3 rfl rfl rfl) ?_
        refine QL.val rfl (fun w hs => run_load1 ty3 rfl (hs.c0 rfl)) ?_
        refine QL.val rfl (fun w hs => run_move) ?_
        refine QL.val rfl (fun w hs => run_nilCheck rfl) ?_
        refine QL.val rfl (fun w hs => run_field (o' := 0) Try.underlying85 rfl ty29 rfl rfl rfl) ?_
        refine QL.val rfl (fun w hs => run_load1 ty29 rfl (hs.c0 rfl)) ?_
        refine QL.val rfl (fun w hs => run_lenSl Try.underlying29 rfl) ?_
        refine QL.val rfl (fun w hs => run_bF (run_geq rfl rfl) (by omega)) ?_
        refine QL.nil (fun w hs => ?_)
        repeat (first | refine CW.seq ?_ | refine CW.block ?_ | refine CW.skip ?_ | refine CW.label ?_ | refine CW.exit ?_ | refine CW.condT rfl ?_ | refine CW.condF rfl ?_)
        refine CW.quiet mixedP (by kernel_rfl) hs ?_
        refine QL.val rfl (fun w hs => run_move) ?_
        refine QL.val rfl (fun w hs => run_nilCheck rfl) ?_
        refine QL.val rfl (fun w hs => run_field (o' := 0) Try.underlying85 rfl ty29 rfl rfl rfl) ?_
        refine QL.val rfl (fun w hs => run_load1 ty29 rfl (hs.c0 rfl)) ?_
        refine QL.val rfl (fun w hs => run_move) ?_
        refine QL.val rfl (fun w hs => run_nilCheck rfl) ?_
        refine QL.val rfl (fun w hs => run_field (o' := 1) Try.underlying85 rfl ty3 rfl rfl rfl) ?_
        refine QL.val rfl (fun w hs => run_load1 ty3 rfl (hs.c0 rfl)) ?_
        first | refine QL.val rfl (fun w hs => run_ixSlN Try.underlying29 ty5 rfl rfl (by omega)) ?_ | refine QL.val rfl (fun w hs => run_ixSl Try.underlying29 ty5 rfl rfl (by omega)) ?_
        refine QL.val rfl (fun w hs => run_load1 ty5 rfl (hcell hp' hs)) ?_
        first | refine QL.val rfl (fun w hs => run_convI64 Try.underlying5 Try.underlying3 rfl (by omega)) ?_ | refine QL.val rfl (fun w hs => run_convInt Try.underlying5 Try.underlying3 rfl) ?_
        refine QL.val rfl (fun w hs => run_assign) ?_
        refine QL.nil (fun w hs => ?_)
        repeat (first | refine CW.seq ?_ | refine CW.block ?_ | refine CW.skip ?_ | refine CW.label ?_ | refine CW.exit ?_ | refine CW.condT rfl ?_ | refine CW.condF rfl ?_)
        refine CW.reg ?_
        refine WL.val rfl (run_move) ?_
        refine WL.val rfl (run_bF (run_leq rfl rfl) (by omega)) ?_
        refine WL.nil ?_
        repeat (first | refine CW.seq ?_ | refine CW.block ?_ | refine CW.skip ?_ | refine CW.label ?_ | refine CW.exit ?_ | refine CW.condT rfl ?_ | refine CW.condF rfl ?_)
        refine CW.reg ?_
        refine WL.val rfl (run_move) ?_
        refine WL.val rfl (run_sub (c := (k : Int)) rfl rfl (by omega) (by omega)) ?_
        refine WL.val rfl (run_assign) ?_
        refine WL.nil ?_
        repeat (first | refine CW.seq ?_ | refine CW.block ?_ | refine CW.skip ?_ | refine CW.label ?_ | refine CW.exit ?_ | refine CW.condT rfl ?_ | refine CW.condF rfl ?_)
        refine CW.quiet mixedP (by kernel_rfl) hs ?_
        refine QL.val rfl (fun w hs => run_move) ?_
        refine QL.val rfl (fun w hs => run_nilCheck rfl) ?_
        refine QL.val rfl (fun w hs => run_field (o' := 0) Try.underlying85 rfl ty29 rfl rfl rfl) ?_
        refine QL.val rfl (fun w hs => run_load1 ty29 rfl (hs.c0 rfl)) ?_
        refine QL.val rfl (fun w hs => run_lenSl Try.underlying29 rfl) ?_
        refine QL.val rfl (fun w hs => run_move) ?_
        refine QL.val rfl (fun w hs => run_nilCheck rfl) ?_
        refine QL.val rfl (fun w hs => run_field (o' := 1) Try.underlying85 rfl ty3 rfl rfl rfl) ?_
        refine QL.val rfl (fun w hs => run_load1 ty3 rfl (hs.c0 rfl)) ?_
        refine QL.val rfl (fun w hs => run_sub rfl rfl rfl (by omega)) ?_
        refine QL.val rfl (fun w hs => run_sub rfl rfl rfl (by omega)) ?_
        refine QL.val rfl (fun w hs => run_move) ?_
        refine QL.val rfl (fun w hs => run_bT (run_lss rfl rfl) (by omega)) ?_
        refine QL.nil (fun w hs => ?_)
        repeat (first | refine CW.seq ?_ | refine CW.block ?_ | refine CW.skip ?_ | refine CW.label ?_ | refine CW.exit ?_ | refine CW.condT rfl ?_ | refine CW.condF rfl ?_)
        refine CW.reg ?_
        refine WL.val rfl (run_move) ?_
        refine WL.val rfl (run_nilCheck rfl) ?_
        refine WL.val rfl (run_field (o' := 2) Try.underlying85 rfl ty3 rfl rfl rfl) ?_
        refine WL.store1 ty3 rfl rfl (rfl) (hs) (by first | (simp; done) | omega | (simp only [List.length_append, List.length_replicate, List.length_cons, List.length_nil, List.length_set]; omega) | (simp [Ent.cells, u8s]; done) | exact Nat.le_of_ble_eq_true rfl) (fun w hs => ?_)
        refine WL.nil ?_
        repeat (first | refine CW.seq ?_ | refine CW.block ?_ | refine CW.skip ?_ | refine CW.label ?_ | refine CW.exit ?_ | refine CW.condT rfl ?_ | refine CW.condF rfl ?_)
        refine CW.reg ?_
        refine WL.val rfl (run_assign) ?_
        refine WL.val rfl (run_assign) ?_
        refine WL.nil ?_
        repeat (first | refine CW.seq ?_ | refine CW.block ?_ | refine CW.skip ?_ | refine CW.label ?_ | refine CW.exit ?_ | refine CW.condT rfl ?_ | refine CW.condF rfl ?_)
        refine CW.ret ?_
        refine fin_ret2 rfl ?_
        exact .err e rfl hs
      · have hobt : ∃ z, (bs.drop (p + 1)).take k = z := ⟨_, rfl⟩
        obtain ⟨z, hz⟩ := hobt
        have hzl : z.length = k := by rw [← hz]; simp; omega
        have hg1 : bs.getD (p + 1) 0 = z[0] := by
          rw [getD_of (by omega)]
          simp [← hz]
        have hnum : r = if z[0] = 0 ∨ beVal z < 248 then .error 12 else .ok (beVal z, p + 1 + k) := by
          rw [← hr]
          unfold numberP
          rw [if_neg hp, hg, if_neg hc, hk, if_neg hk2, hz, hg1]
        have hff := form_first (r := z) (by omega) (by omega)
        refine calls (n := 87) Try.func73 rfl rfl rfl ?_
        repeat (first | refine CW.seq ?_ | refine CW.block ?_ | refine CW.skip ?_ | refine CW.label ?_ | refine CW.exit ?_ | refine CW.condT rfl ?_ | refine CW.condF rfl ?_)
        refine CW.reg ?_
        refine WL.val rfl (run_assign) ?_
        refine WL.val rfl (run_assign) ?_
        refine WL.nil ?_
        repeat (first | refine CW.seq ?_ | refine CW.block ?_ | refine CW.skip ?_ | refine CW.label ?_ | refine CW.exit ?_ | refine CW.condT rfl ?_ | refine CW.condF rfl ?_)
        refine CW.quiet mixedP (by kernel_rfl) hs ?_
        refine QL.val rfl (fun w hs => run_move) ?_
        refine QL.val rfl (fun w hs => run_nilCheck rfl) ?_
        refine QL.val rfl (fun w hs => run_field (o' := 1) Try.underlying85 rfl ty3 rfl rfl rfl) ?_
        refine QL.val rfl (fun w hs => run_load1 ty3 rfl (hs.c0 rfl)) ?_
        refine QL.val rfl (fun w hs => run_move) ?_
        refine QL.val rfl (fun w hs => run_nilCheck rfl) ?_
        refine QL.val rfl (fun w hs => run_field (o' := 0) Try.underlying85 rfl ty29 rfl rfl rfl) ?_
        refine QL.val rfl (fun w hs => run_load1 ty29 rfl (hs.c0 rfl)) ?_
        refine QL.val rfl (fun w hs => run_lenSl Try.underlying29 rfl) ?_
        refine QL.val rfl (fun w hs => run_bF (run_geq rfl rfl) (by omega)) ?_
        refine QL.nil (fun w hs => ?_)
        repeat (first | refine CW.seq ?_ | refine CW.block ?_ | refine CW.skip ?_ | refine CW.label ?_ | refine CW.exit ?_ | refine CW.condT rfl ?_ | refine CW.condF rfl ?_)
        refine CW.quiet mixedP (by kernel_rfl) hs ?_
        refine QL.val rfl (fun w hs => run_move) ?_
        refine QL.val rfl (fun w hs => run_nilCheck rfl) ?_
        refine QL.val rfl (fun w hs => run_field (o' := 0) Try.underlying85 rfl ty29 rfl rfl rfl) ?_
        refine QL.val rfl (fun w hs => run_load1 ty29 rfl (hs.c0 rfl)) ?_
        refine QL.val rfl (fun w hs => run_move) ?_
        refine QL.val rfl (fun w hs => run_nilCheck rfl) ?_
        refine QL.val rfl (fun w hs => run_field (o' := 1) Try.underlying85 rfl ty3 rfl rfl rfl) ?_
        refine QL.val rfl (fun w hs => run_load1 ty3 rfl (hs.c0 rfl)) ?_
        first | refine QL.val rfl (fun w hs => run_ixSlN Try.underlying29 ty5 rfl rfl (by omega)) ?_ | refine QL.val rfl (fun w hs => run_ixSl Try.underlying29 ty5 rfl rfl (by omega)) ?_
        refine QL.val rfl (fun w hs => run_load1 ty5 rfl (hcell hp' hs)) ?_
        first | refine QL.val rfl (fun w hs => run_convI64 Try.underlying5 Try.underlying3 rfl (by omega)) ?_ | refine QL.val rfl (fun w hs => run_convInt Try.underlying5 Try.underlying3 rfl) ?_
        refine QL.val rfl (fun w hs => run_assign) ?_
        refine QL.nil (fun w hs => ?_)
        repeat (first | refine CW.seq ?_ | refine CW.block ?_ | refine CW.skip ?_ | refine CW.label ?_ | refine CW.exit ?_ | refine CW.condT rfl ?_ | refine CW.condF rfl ?_)
        refine CW.reg ?_
        refine WL.val rfl (run_move) ?_
        refine WL.val rfl (run_bF (run_leq rfl rfl) (by omega)) ?_
        refine WL.nil ?_
        repeat (first | refine CW.seq ?_ | refine CW.block ?_ | refine CW.skip ?_ | refine CW.label ?_ | refine CW.exit ?_ | refine CW.condT rfl ?_ | refine CW.condF rfl ?_)
        refine CW.reg ?_
        refine WL.val rfl (run_move) ?_
        refine WL.val rfl (run_sub (c := (k : Int)) rfl rfl (by omega) (by omega)) ?_
        refine WL.val rfl (run_assign) ?_
        refine WL.nil ?_
        repeat (first | refine CW.seq ?_ | refine CW.block ?_ | refine CW.skip ?_ | refine CW.label ?_ | refine CW.exit ?_ | refine CW.condT rfl ?_ | refine CW.condF rfl ?_)
        refine CW.quiet mixedP (by kernel_rfl) hs ?_
        refine QL.val rfl (fun w hs => run_move) ?_
        refine QL.val rfl (fun w hs => run_nilCheck rfl) ?_
        refine QL.val rfl (fun w hs => run_field (o' := 0) Try.underlying85 rfl ty29 rfl rfl rfl) ?_
        refine QL.val rfl (fun w hs => run_load1 ty29 rfl (hs.c0 rfl)) ?_
        refine QL.val rfl (fun w hs => run_lenSl Try.underlying29 rfl) ?_
        refine QL.val rfl (fun w hs => run_move) ?_
        refine QL.val rfl (fun w hs => run_nilCheck rfl) ?_
        refine QL.val rfl (fun w hs => run_field (o' := 1) Try.underlying85 rfl ty3 rfl rfl rfl) ?_
        refine QL.val rfl (fun w hs => run_load1 ty3 rfl (hs.c0 rfl)) ?_
        refine QL.val rfl (fun w hs => run_sub rfl rfl rfl (by omega)) ?_
        refine QL.val rfl (fun w hs => run_sub rfl rfl rfl (by omega)) ?_
        refine QL.val rfl (fun w hs => run_move) ?_
        refine QL.val rfl (fun w hs => run_bF (run_lss rfl rfl) (by omega)) ?_
        refine QL.nil (fun w hs => ?_)
        repeat (first | refine CW.seq ?_ | refine CW.block ?_ | refine CW.skip ?_ | refine CW.label ?_ | refine CW.exit ?_ | refine CW.condT rfl ?_ | refine CW.condF rfl ?_)
        refine CW.reg ?_
        refine WL.val rfl (run_assign) ?_
        refine WL.nil ?_
        repeat (first | refine CW.seq ?_ | refine CW.block ?_ | refine CW.skip ?_ | refine CW.label ?_ | refine CW.exit ?_ | refine CW.condT rfl ?_ | refine CW.condF rfl ?_)
        refine CW.reg ?_
        refine WL.val rfl (run_assign) ?_
        refine WL.nil ?_
        repeat (first | refine CW.seq ?_ | refine CW.block ?_ | refine CW.skip ?_ | refine CW.label ?_ | refine CW.exit ?_ | refine CW.condT rfl ?_ | refine CW.condF rfl ?_)
        refine CW.loop (fun m f w' => ∃ j, j ≤ k ∧ m = k - j ∧ Step [b] [RRB b (.slice (some ⟨bb, off, none⟩) bs.length c) p 0] w0 w' ∧ Holds f [(0, .pointer (some ⟨b, 0, none⟩)), (5, .int .i64 k), (6, .int .u64 (beVal (z.take j) : Nat)), (7, .int .i64 (j + 1 : Nat))]) (m := k) ?_ ?_
        · exact ⟨0, by omega, by omega, hs, rfl, rfl, rfl, rfl, trivial⟩
        · rintro m f w ⟨j, hj, rfl, hs, hf⟩
          have hobt := hf.chain
          obtain ⟨g, rfl⟩ := hobt
          unfold RRB at hs
          repeat (first | refine CW.seq ?_ | refine CW.block ?_ | refine CW.skip ?_ | refine CW.label ?_ | refine CW.exit ?_ | refine CW.condT rfl ?_ | refine CW.condF rfl ?_)
          refine CW.reg ?_
          refine WL.val rfl (run_move) ?_
          refine WL.val rfl (run_move) ?_
          refine WL.val rfl (run_leq rfl rfl) ?_
          refine WL.nil ?_
          repeat (first | refine CW.seq ?_ | refine CW.block ?_ | refine CW.skip ?_ | refine CW.label ?_ | refine CW.exit ?_)
          first | refine CW.condP rfl (fun hlt => ?_) (fun hlt => ?_) | refine CW.cond rfl (fun hlt => ?_) (fun hlt => ?_)
          · have hlt' : j < z.length := by omega
            have hb1 := beVal_lt (z.take j)
            have hb2 : 256 ^ (z.take j).length ≤ 256 ^ 7 := Nat.pow_le_pow_right (by decide) (by rw [List.length_take]; omega)
            have h7 : (256 : Nat) ^ 7 = 72057594037927936 := by decide
            have hpj : p + (j + 1) < bs.length := by omega
            have hzj : z[j] = bs[p + (j + 1)] := by
              simp only [← hz, List.getElem_take, List.getElem_drop]
              congr 1
              omega
            have hcl2 := (bs[p + (j + 1)]).toNat_lt
            repeat (first | refine CW.seq ?_ | refine CW.block ?_ | refine CW.skip ?_ | refine CW.label ?_ | refine CW.exit ?_ | refine CW.condT rfl ?_ | refine CW.condF rfl ?_)
            refine CW.quiet mixedP (by kernel_rfl) hs ?_
            refine QL.val rfl (fun w hs => run_move) ?_
            refine QL.val rfl (fun w hs => run_shl8 rfl rfl (by omega)) ?_
            refine QL.val rfl (fun w hs => run_move) ?_
            refine QL.val rfl (fun w hs => run_nilCheck rfl) ?_
            refine QL.val rfl (fun w hs => run_field (o' := 0) Try.underlying85 rfl ty29 rfl rfl rfl) ?_
            refine QL.val rfl (fun w hs => run_load1 ty29 rfl (hs.c0 rfl)) ?_
            refine QL.val rfl (fun w hs => run_move) ?_
            refine QL.val rfl (fun w hs => run_nilCheck rfl) ?_
            refine QL.val rfl (fun w hs => run_field (o' := 1) Try.underlying85 rfl ty3 rfl rfl rfl) ?_
            refine QL.val rfl (fun w hs => run_load1 ty3 rfl (hs.c0 rfl)) ?_
            refine QL.val rfl (fun w hs => run_move) ?_
            refine QL.val rfl (fun w hs => run_add (c := ((p + (j + 1) : Nat) : Int)) rfl rfl (by omega) (by omega)) ?_
            first | refine QL.val rfl (fun w hs => run_ixSlN Try.underlying29 ty5 rfl rfl (by omega)) ?_ | refine QL.val rfl (fun w hs => run_ixSl Try.underlying29 ty5 rfl rfl (by omega)) ?_
            refine QL.val rfl (fun w hs => run_load1 ty5 rfl (hcell hpj hs)) ?_
            first | refine QL.val rfl (fun w hs => run_convU64 Try.underlying5 Try.underlying101 rfl (by omega)) ?_ | refine QL.val rfl (fun w hs => run_convInt Try.underlying5 Try.underlying101 rfl) ?_
            refine QL.val rfl (fun w hs => run_orB rfl rfl (by omega) (by omega)) ?_
            refine QL.val rfl (fun w hs => run_assign) ?_
            refine QL.nil (fun w hs => ?_)
            repeat (first | refine CW.seq ?_ | refine CW.block ?_ | refine CW.skip ?_ | refine CW.label ?_ | refine CW.exit ?_ | refine CW.condT rfl ?_ | refine CW.condF rfl ?_)
            refine CW.reg ?_
            refine WL.val rfl (run_move) ?_
            refine WL.val rfl (run_add (c := ((j + 1 + 1 : Nat) : Int)) rfl rfl (by omega) (by omega)) ?_
            refine WL.val rfl (run_assign) ?_
            refine WL.nil ?_
            repeat (first | refine CW.seq ?_ | refine CW.block ?_ | refine CW.skip ?_ | refine CW.label ?_ | refine CW.exit ?_)
            refine (show _ ∧ _ from ⟨rfl, _, ?_, j + 1, by omega, rfl, hs, rfl, rfl, ?_, rfl, trivial⟩)
            · omega
            · rw [List.take_succ_eq_append_getElem hlt', beVal_append, hzj]
              rfl
          · obtain rfl : j = k := by omega
            have htk : z.take j = z := List.take_of_length_le (by omega)
            rw [htk]
            have hbl := beVal_lt z
            have hbl2 : 256 ^ z.length ≤ 256 ^ 8 := Nat.pow_le_pow_right (by decide) (by omega)
            have h8 : (256 : Nat) ^ 8 = 18446744073709551616 := by decide
            have hfl := formB_len (beVal z)
            by_cases hbad : z[0] = 0 ∨ beVal z < 248
            · have e : r = .error 12 := by rw [hnum, if_pos hbad]
              have hnl : (formB (beVal z)).length ≠ 1 + j := fun e => hff.1 (by omega) hbad
              repeat (first | refine CW.seq ?_ | refine CW.block ?_ | refine CW.skip ?_ | refine CW.label ?_ | refine CW.exit ?_ | refine CW.condT rfl ?_ | refine CW.condF rfl ?_)
              refine CW.reg ?_
              refine WL.val rfl (run_move) ?_
              refine WL.enter rfl (run_call en82 rfl rfl) (formR_spec (beVal z) _ (by omega)) ?_
              rintro e w ⟨v', Lv', rfl, hv', hq⟩
              refine ⟨_, rfl, ?_⟩
              have hobt := hv'.form
              obtain ⟨fa, fc, rfl⟩ := hobt
              replace hs := (hs.call0 hq).append_comm
              refine WL.val rfl (run_lenSl Try.underlying29 rfl) ?_
              refine WL.val rfl (run_move) ?_
              refine WL.val rfl (run_add (c := ((1 + j : Nat) : Int)) rfl rfl (by omega) (by omega)) ?_
              refine WL.val rfl (run_bT (run_neq rfl rfl) (by omega)) ?_
              refine WL.nil ?_
              repeat (first | refine CW.seq ?_ | refine CW.block ?_ | refine CW.skip ?_ | refine CW.label ?_ | refine CW.exit ?_ | refine CW.condT rfl ?_ | refine CW.condF rfl ?_)
              refine CW.reg ?_
              refine WL.val rfl (run_move) ?_
              refine WL.val rfl (run_nilCheck rfl) ?_
              refine WL.val rfl (run_field (o' := 2) Try.underlying85 rfl ty3 rfl rfl rfl) ?_
              refine WL.store1 ty3 rfl rfl (rfl) (hs) (by first | (simp; done) | omega | (simp only [List.length_append, List.length_replicate, List.length_cons, List.length_nil, List.length_set]; omega) | (simp [Ent.cells, u8s]; done) | exact Nat.le_of_ble_eq_true rfl) (fun w hs => ?_)
              refine WL.nil ?_
              repeat (first | refine CW.seq ?_ | refine CW.block ?_ | refine CW.skip ?_ | refine CW.label ?_ | refine CW.exit ?_ | refine CW.condT rfl ?_ | refine CW.condF rfl ?_)
              refine CW.reg ?_
              refine WL.val rfl (run_assign) ?_
              refine WL.val rfl (run_assign) ?_
              refine WL.nil ?_
              repeat (first | refine CW.seq ?_ | refine CW.block ?_ | refine CW.skip ?_ | refine CW.label ?_ | refine CW.exit ?_ | refine CW.condT rfl ?_ | refine CW.condF rfl ?_)
              refine CW.ret ?_
              refine fin_ret2 rfl ?_
              exact .err e rfl (Step.dropR (L1 := [_]) hs)
            · have e : r = .ok (beVal z, p + 1 + j) := by rw [hnum, if_neg hbad]
              have hnl : (formB (beVal z)).length = 1 + j := (hff.2 hbad).trans (by omega)
              repeat (first | refine CW.seq ?_ | refine CW.block ?_ | refine CW.skip ?_ | refine CW.label ?_ | refine CW.exit ?_ | refine CW.condT rfl ?_ | refine CW.condF rfl ?_)
              refine CW.reg ?_
              refine WL.val rfl (run_move) ?_
              refine WL.enter rfl (run_call en82 rfl rfl) (formR_spec (beVal z) _ (by omega)) ?_
              rintro e w ⟨v', Lv', rfl, hv', hq⟩
              refine ⟨_, rfl, ?_⟩
              have hobt := hv'.form
              obtain ⟨fa, fc, rfl⟩ := hobt
              replace hs := (hs.call0 hq).append_comm
              refine WL.val rfl (run_lenSl Try.underlying29 rfl) ?_
              refine WL.val rfl (run_move) ?_
              refine WL.val rfl (run_add (c := ((1 + j : Nat) : Int)) rfl rfl (by omega) (by omega)) ?_
              refine WL.val rfl (run_bF (run_neq rfl rfl) (by omega)) ?_
              refine WL.nil ?_
              repeat (first | refine CW.seq ?_ | refine CW.block ?_ | refine CW.skip ?_ | refine CW.label ?_ | refine CW.exit ?_ | refine CW.condT rfl ?_ | refine CW.condF rfl ?_)
              refine CW.reg ?_
              refine WL.val rfl (run_move) ?_
              refine WL.val rfl (run_move) ?_
              refine WL.val rfl (run_add (c := ((1 + j : Nat) : Int)) rfl rfl (by omega) (by omega)) ?_
              refine WL.val rfl (run_assign) ?_
              refine WL.val rfl (run_assign) ?_
              refine WL.nil ?_
              repeat (first | refine CW.seq ?_ | refine CW.block ?_ | refine CW.skip ?_ | refine CW.label ?_ | refine CW.exit ?_ | refine CW.condT rfl ?_ | refine CW.condF rfl ?_)
              refine CW.ret ?_
              refine fin_ret2 rfl ?_
              exact .ok e (by rw [show p + 1 + j - p = 1 + j by omega]; rfl) (Step.dropR (L1 := [_]) hs)
end Go.Gx
