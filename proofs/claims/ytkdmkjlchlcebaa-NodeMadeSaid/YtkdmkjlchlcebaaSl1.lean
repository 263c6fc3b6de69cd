/- Library functions of slices at entries: binary search, Clone; node.place. -/
import Derived.Test.YtkdmkjlchlcebaaPrim
import Derived.Test.YtkdmkjlchlcebaaShelf
import Derived.Test.YtkdmkjlchlcebaaPan
namespace Go.Gx
open Go.Proofs
set_option linter.unusedVariables false
set_option linter.unusedSimpArgs false
set_option maxRecDepth 100000

theorem cmp_lt : ∀ a b : List UInt8, Lib.compareBytes a b < 0 ↔ Op.bytesLess a b = true
  | [], [] => by simp [Lib.compareBytes, Op.bytesLess]
  | [], _ :: _ => by simp [Lib.compareBytes, Op.bytesLess]
  | _ :: _, [] => by simp [Lib.compareBytes, Op.bytesLess]
  | a :: x, b :: y => by
    have ih := cmp_lt x y
    unfold Lib.compareBytes
    by_cases h : a < b
    · simp [h, Op.bytesLess]
    · by_cases h2 : b < a
      · have hne : ¬ a = b := fun e => by subst e; exact UInt8.lt_irrefl _ h2
        simp [h, h2, Op.bytesLess, hne]
      · have : a = b := UInt8.toNat_inj.1 (by have h3 := UInt8.not_lt.1 h; have h4 := UInt8.not_lt.1 h2; exact Nat.le_antisymm (UInt8.le_iff_toNat_le.1 h4) (UInt8.le_iff_toNat_le.1 h3))
        subst this
        simp [Op.bytesLess, UInt8.lt_irrefl, ih]
theorem cmp_eq0 : ∀ a b : List UInt8, Lib.compareBytes a b = 0 ↔ a = b
  | [], [] => by simp [Lib.compareBytes]
  | [], _ :: _ => by simp [Lib.compareBytes]
  | _ :: _, [] => by simp [Lib.compareBytes]
  | a :: x, b :: y => by
    have ih := cmp_eq0 x y
    unfold Lib.compareBytes
    by_cases h : a < b
    · have hne : ¬ a = b := fun e => by subst e; exact UInt8.lt_irrefl _ h
      simp [h, hne]
    · by_cases h2 : b < a
      · have hne : ¬ a = b := fun e => by subst e; exact UInt8.lt_irrefl _ h2
        simp [h, h2, hne]
      · have : a = b := UInt8.toNat_inj.1 (by have h3 := UInt8.not_lt.1 h; have h4 := UInt8.not_lt.1 h2; exact Nat.le_antisymm (UInt8.le_iff_toNat_le.1 h4) (UInt8.le_iff_toNat_le.1 h3))
        subst this
        simp [UInt8.lt_irrefl, ih]

theorem compare_spec (a b : List UInt8) (w : World) : Calls Try.prog 77 #[str a, str b] w (Ret0 (.int .i64 (Lib.compareBytes a b)) w) := by
  have h := Try.strings_Compare ⟨⟨a⟩⟩ ⟨⟨b⟩⟩ w
  refine h.mono fun e w' ⟨h1, h2⟩ => ?_
  subst h2
  exact ⟨h1, Step.refl _⟩

theorem cmpE_spec {x : Ent} {n : List UInt8} (w : World) (hx : x.ok) : Calls Try.prog 76 #[.agg x.cells.toArray, str n] w (Ret0 (.int .i64 (Lib.compareBytes x.name n)) w) := by
  have hs : Step [] [] w w := Step.refl w
  refine calls (n := 9) Try.func76 rfl rfl rfl ?_
  repeat (first | refine CW.seq ?_ | refine CW.block ?_ | refine CW.skip ?_ | refine CW.exit ?_ | refine CW.condT rfl ?_ | refine CW.condF rfl ?_)
  refine CW.reg ?_
  refine WL.box (cs := x.cells) rfl rfl rfl hs (fun b2 w hs => ?_)
  refine WL.val rfl (run_assign) ?_
  refine WL.nil ?_
  repeat (first | refine CW.seq ?_ | refine CW.block ?_ | refine CW.skip ?_ | refine CW.exit ?_ | refine CW.condT rfl ?_ | refine CW.condF rfl ?_)
  refine CW.reg ?_
  refine WL.val rfl (run_field (o' := 0) Try.underlying48 rfl ty9 rfl rfl rfl) ?_
  first | refine WL.val rfl (run_load1 ty9 rfl (hs.c0 rfl)) ?_ | refine WL.val rfl (run_load1 ty9 rfl (hs.c1 rfl)) ?_ | refine WL.val rfl (run_load1 ty9 rfl (hs.c2 rfl)) ?_ | refine WL.val rfl (run_load1 ty9 rfl (hs.c3 rfl)) ?_ | refine WL.val rfl (run_load1 ty9 rfl (hs.c4 rfl)) ?_ | refine WL.val rfl (run_load1 ty9 rfl (hs.c5 rfl)) ?_ | refine WL.val rfl (run_load1 ty9 rfl (hs.c0 rfl)) ?_
  refine WL.val rfl (run_move) ?_
  refine WL.enter rfl (run_call en77 rfl rfl) (compare_spec _ _ _) ?_
  rintro e w ⟨rfl, hq⟩
  refine ⟨_, rfl, ?_⟩
  refine WL.val rfl (run_assign) ?_
  refine WL.nil ?_
  repeat (first | refine CW.seq ?_ | refine CW.block ?_ | refine CW.skip ?_ | refine CW.exit ?_ | refine CW.condT rfl ?_ | refine CW.condF rfl ?_)
  refine CW.ret ?_
  refine fin_ret1 rfl ?_
  exact ⟨rfl, (hs.callE hq).clear⟩

theorem run_shr1 {P : Program} {f : Slots} {w : World} {d : Option Tmp} {ty : TypeId} {pos : String} {af : Array Edge} {x y : Operand} {T T' : TypeId} {k k' : IntKind} {u : Nat} (hx : ev f x = .int k u) (hy : ev f y = .int k' 1) (hk : 1 ≤ k.bits) :
    (execOp (ev f) ⟨d, .binOp .shr T x y T', ty, pos, af, none⟩).run P w = .ok (.value (.int k (u / 2 : Nat))) w := by
  rw [run_shr hx hy (by decide)]
  have e : (2 : Int) ^ min (1 : Int).toNat k.bits = ((2 : Nat) : Int) := by
    have : min (1 : Int).toNat k.bits = 1 := by
      show min 1 k.bits = 1
      omega
    rw [this]
    rfl
  rw [e, Int.fdiv_eq_ediv_of_nonneg _ (by decide), ← Int.natCast_ediv]

/-- The names rise. -/
def Rising (l : List Ent) : Prop := l.Pairwise fun x y => Op.bytesLess x.name y.name = true
/-- Place i parts the names below n from the others. -/
def PartAt (l : List Ent) (n : List UInt8) (i : Nat) : Prop := (∀ j (h : j < l.length), j < i → Op.bytesLess l[j].name n = true) ∧ (∀ j (h : j < l.length), i ≤ j → Op.bytesLess l[j].name n = false)
def At? (l : List Ent) (n : List UInt8) (i : Nat) : Bool := match l[i]? with | some x => decide (x.name = n) | none => false

theorem bytesLess_trans : ∀ {a b c : List UInt8}, Op.bytesLess a b = true → Op.bytesLess b c = true → Op.bytesLess a c = true
  | [], b :: y, c :: z, _, _ => rfl
  | a :: x, b :: y, c :: z, h1, h2 => by
    simp only [Op.bytesLess, Bool.or_eq_true, decide_eq_true_eq, Bool.and_eq_true, beq_iff_eq] at h1 h2 ⊢
    rcases h1 with h1 | ⟨rfl, h1⟩
    · rcases h2 with h2 | ⟨rfl, h2⟩
      · exact .inl (UInt8.lt_trans h1 h2)
      · exact .inl h1
    · rcases h2 with h2 | ⟨rfl, h2⟩
      · exact .inl h2
      · exact .inr ⟨rfl, bytesLess_trans h1 h2⟩
  | [], [], _, h, _ => by cases h
  | [], _ :: _, [], _, h => by cases h
  | _ :: _, [], _, h, _ => by cases h
  | _ :: _, _ :: _, [], _, h => by cases h

theorem rising_lt {l : List Ent} (h : Rising l) {i j : Nat} (hj : j < l.length) (hij : i < j) : Op.bytesLess (l[i]).name (l[j]).name = true := List.pairwise_iff_getElem.1 h i j (by omega) hj hij

theorem search_spec {v : Value} {l : List Ent} {n : List UInt8} (w0 : World) (hl : Es w0 v l) (hbb : l.length ≤ 1000000) :
    Calls Try.prog 75 #[v, str n, .func (.func 76) #[] #[]] w0 fun e w' => ∃ i : Nat, e = .returned (.tuple #[.int .i64 i, .bool (At? l n i)]) ∧ i ≤ l.length ∧ (Rising l → PartAt l n i) ∧ Step [] [] w0 w' := by
  have hs : Step [] [] w0 w0 := Step.refl w0
  have hbl := hl.2.2
  have hobt := hl.1.form
  obtain ⟨a, c, rfl⟩ := hobt
  refine calls (n := 49) Try.func75 rfl rfl rfl ?_
  repeat (first | refine CW.seq ?_ | refine CW.block ?_ | refine CW.skip ?_ | refine CW.exit ?_ | refine CW.condT rfl ?_ | refine CW.condF rfl ?_)
  refine CW.reg ?_
  refine WL.val rfl (run_assign) ?_
  refine WL.val rfl (run_assign) ?_
  refine WL.nil ?_
  repeat (first | refine CW.seq ?_ | refine CW.block ?_ | refine CW.skip ?_ | refine CW.exit ?_ | refine CW.condT rfl ?_ | refine CW.condF rfl ?_)
  refine CW.reg ?_
  refine WL.val rfl (run_move) ?_
  refine WL.val rfl (run_lenSl Try.underlying22 rfl) ?_
  refine WL.val rfl (run_assign) ?_
  refine WL.nil ?_
  repeat (first | refine CW.seq ?_ | refine CW.block ?_ | refine CW.skip ?_ | refine CW.exit ?_ | refine CW.condT rfl ?_ | refine CW.condF rfl ?_)
  refine CW.reg ?_
  refine WL.val rfl (run_move) ?_
  refine WL.val rfl (run_assign) ?_
  refine WL.val rfl (run_assign) ?_
  refine WL.nil ?_
  repeat (first | refine CW.seq ?_ | refine CW.block ?_ | refine CW.skip ?_ | refine CW.exit ?_ | refine CW.condT rfl ?_ | refine CW.condF rfl ?_)
  refine CW.loop (fun m f w' => ∃ i j : Nat, i ≤ j ∧ j ≤ l.length ∧ m = j - i ∧ Step [] [] w0 w' ∧ (Rising l → (∀ k (h : k < l.length), k < i → Op.bytesLess l[k].name n = true) ∧ (∀ k (h : k < l.length), j ≤ k → Op.bytesLess l[k].name n = false)) ∧ Holds f [(0, .slice a l.length c), (1, str n), (2, .func (.func 76) #[] #[]), (8, .int .i64 l.length), (9, .int .i64 i), (10, .int .i64 j)]) (m := l.length) ?_ ?_
  · exact ⟨0, l.length, by omega, by omega, by omega, hs, fun _ => ⟨fun k h h1 => by omega, fun k h h1 => by omega⟩, rfl, rfl, rfl, rfl, rfl, rfl, trivial⟩
  · rintro m f w ⟨i, j, hij, hj, rfl, hs, hp, hf⟩
    have hobt := hf.chain
    obtain ⟨g, rfl⟩ := hobt
    repeat (first | refine CW.seq ?_ | refine CW.block ?_ | refine CW.skip ?_ | refine CW.exit ?_ | refine CW.condT rfl ?_ | refine CW.condF rfl ?_)
    refine CW.reg ?_
    refine WL.val rfl (run_move) ?_
    refine WL.val rfl (run_move) ?_
    refine WL.val rfl (run_lss rfl rfl) ?_
    refine WL.nil ?_
    repeat (first | refine CW.seq ?_ | refine CW.block ?_ | refine CW.skip ?_ | refine CW.exit ?_)
    first | refine CW.condP rfl (fun hlt => ?_) (fun hlt => ?_) | refine CW.cond rfl (fun hlt => ?_) (fun hlt => ?_)
    · have hlt' : i < j := by omega
      have hh : i ≤ (i + j) / 2 ∧ (i + j) / 2 < j := by omega
      rcases hl.cases with ⟨c', hv', rfl⟩ | ⟨b, off, c', hv', hat⟩
      · simp at hj
        omega
      obtain ⟨rfl, rfl⟩ : a = some ⟨b, off, none⟩ ∧ c = c' := by cases hv'; exact ⟨rfl, rfl⟩
      have hhl : (i + j) / 2 < l.length := by omega
      have hok := hl.2.1.get hhl
      have hax := (hat.ent hl.2.1 hhl).step hs (by simp)
      repeat (first | refine CW.seq ?_ | refine CW.block ?_ | refine CW.skip ?_ | refine CW.exit ?_ | refine CW.condT rfl ?_ | refine CW.condF rfl ?_)
      refine CW.reg ?_
      refine WL.val rfl (run_move) ?_
      refine WL.val rfl (run_move) ?_
      refine WL.val rfl (run_add (c := ((i + j : Nat) : Int)) rfl rfl (by omega) (by omega)) ?_
      first | refine WL.val rfl (run_convU64 Try.underlying3 Try.underlying94 rfl (by omega)) ?_ | refine WL.val rfl (run_convInt Try.underlying3 Try.underlying94 rfl) ?_
      refine WL.val rfl (run_shr1 rfl rfl (by decide)) ?_
      first | refine WL.val rfl (run_convI64 Try.underlying94 Try.underlying3 rfl (by omega)) ?_ | refine WL.val rfl (run_convInt Try.underlying94 Try.underlying3 rfl) ?_
      refine WL.val rfl (run_assign) ?_
      refine WL.nil ?_
      by_cases hc : Op.bytesLess (l[(i + j) / 2]).name n = true
      · repeat (first | refine CW.seq ?_ | refine CW.block ?_ | refine CW.skip ?_ | refine CW.exit ?_ | refine CW.condT rfl ?_ | refine CW.condF rfl ?_)
        refine CW.reg ?_
        refine WL.val rfl (run_move) ?_
        refine WL.val rfl (run_move) ?_
        refine WL.val rfl (run_move) ?_
        first | refine WL.val rfl (run_ixSlN Try.underlying22 ty48 rfl rfl (by omega)) ?_ | refine WL.val rfl (run_ixSl Try.underlying22 ty48 rfl rfl (by omega)) ?_
        refine WL.val rfl (run_loadN ty48 rfl (Ent.cells_len hok) hax) ?_
        refine WL.val rfl (run_move) ?_
        refine WL.enter rfl (run_callV (cap := []) en76 rfl rfl) (cmpE_spec _ hok) ?_
        rintro e w ⟨rfl, hq⟩
        refine ⟨_, rfl, ?_⟩
        refine WL.val rfl (run_bT (run_lss rfl rfl) (by exact (cmp_lt _ _).2 hc)) ?_
        refine WL.nil ?_
        replace hs := hs.callE hq
        repeat (first | refine CW.seq ?_ | refine CW.block ?_ | refine CW.skip ?_ | refine CW.exit ?_ | refine CW.condT rfl ?_ | refine CW.condF rfl ?_)
        refine CW.reg ?_
        refine WL.val rfl (run_move) ?_
        refine WL.val rfl (run_add (c := (((i + j) / 2 + 1 : Nat) : Int)) rfl rfl (by omega) (by omega)) ?_
        refine WL.val rfl (run_assign) ?_
        refine WL.nil ?_
        repeat (first | refine CW.seq ?_ | refine CW.block ?_ | refine CW.skip ?_ | refine CW.exit ?_)
        refine (show _ ∧ _ from ⟨rfl, _, ?_, (i + j) / 2 + 1, j, by omega, hj, rfl, hs, ?_, rfl, rfl, rfl, rfl, rfl, rfl, trivial⟩)
        · omega
        · intro hr
          refine ⟨fun k h h1 => ?_, (hp hr).2⟩
          by_cases hk : k = (i + j) / 2
          · subst hk; exact hc
          · exact bytesLess_trans (rising_lt hr hhl (by omega)) hc
      · repeat (first | refine CW.seq ?_ | refine CW.block ?_ | refine CW.skip ?_ | refine CW.exit ?_ | refine CW.condT rfl ?_ | refine CW.condF rfl ?_)
        refine CW.reg ?_
        refine WL.val rfl (run_move) ?_
        refine WL.val rfl (run_move) ?_
        refine WL.val rfl (run_move) ?_
        first | refine WL.val rfl (run_ixSlN Try.underlying22 ty48 rfl rfl (by omega)) ?_ | refine WL.val rfl (run_ixSl Try.underlying22 ty48 rfl rfl (by omega)) ?_
        refine WL.val rfl (run_loadN ty48 rfl (Ent.cells_len hok) hax) ?_
        refine WL.val rfl (run_move) ?_
        refine WL.enter rfl (run_callV (cap := []) en76 rfl rfl) (cmpE_spec _ hok) ?_
        rintro e w ⟨rfl, hq⟩
        refine ⟨_, rfl, ?_⟩
        refine WL.val rfl (run_bF (run_lss rfl rfl) (by exact fun h => hc ((cmp_lt _ _).1 h))) ?_
        refine WL.nil ?_
        replace hs := hs.callE hq
        repeat (first | refine CW.seq ?_ | refine CW.block ?_ | refine CW.skip ?_ | refine CW.exit ?_ | refine CW.condT rfl ?_ | refine CW.condF rfl ?_)
        refine CW.reg ?_
        refine WL.val rfl (run_move) ?_
        refine WL.val rfl (run_assign) ?_
        refine WL.nil ?_
        repeat (first | refine CW.seq ?_ | refine CW.block ?_ | refine CW.skip ?_ | refine CW.exit ?_)
        refine (show _ ∧ _ from ⟨rfl, _, ?_, i, (i + j) / 2, by omega, by omega, rfl, hs, ?_, rfl, rfl, rfl, rfl, rfl, rfl, trivial⟩)
        · omega
        · intro hr
          refine ⟨(hp hr).1, fun k h h1 => ?_⟩
          by_cases hk : k = (i + j) / 2
          · subst hk; simpa using hc
          · cases hkn : Op.bytesLess (l[k]).name n with
            | false => rfl
            | true => exact absurd (bytesLess_trans (rising_lt hr h (by omega)) hkn) hc
    · obtain rfl : i = j := by omega
      by_cases hlt2 : i < l.length
      · rcases hl.cases with ⟨c', hv', rfl⟩ | ⟨b, off, c', hv', hat⟩
        · simp at hlt2
        obtain ⟨rfl, rfl⟩ : a = some ⟨b, off, none⟩ ∧ c = c' := by cases hv'; exact ⟨rfl, rfl⟩
        have hok := hl.2.1.get hlt2
        have hax := (hat.ent hl.2.1 hlt2).step hs (by simp)
        have hat2 : At? l n i = decide ((l[i]).name = n) := by unfold At?; rw [List.getElem?_eq_getElem hlt2]
        by_cases hn : (l[i]).name = n
        · repeat (first | refine CW.seq ?_ | refine CW.block ?_ | refine CW.skip ?_ | refine CW.exit ?_ | refine CW.condT rfl ?_ | refine CW.condF rfl ?_)
          refine CW.reg ?_
          refine WL.val rfl (run_move) ?_
          refine WL.val rfl (run_move) ?_
          refine WL.val rfl (run_move) ?_
          refine WL.val rfl (run_bT (run_lss rfl rfl) (by omega)) ?_
          refine WL.val rfl (run_move) ?_
          refine WL.yes rfl rfl rfl ?_
          refine WL.val rfl (run_move) ?_
          refine WL.yes rfl rfl rfl ?_
          refine WL.val rfl (run_move) ?_
          refine WL.yes rfl rfl rfl ?_
          refine WL.val rfl (run_move) ?_
          refine WL.yes rfl rfl rfl ?_
          first | refine WL.val rfl (run_ixSlN Try.underlying22 ty48 rfl rfl (by omega)) ?_ | refine WL.val rfl (run_ixSl Try.underlying22 ty48 rfl rfl (by omega)) ?_
          refine WL.yes rfl rfl rfl ?_
          refine WL.val rfl (run_loadN ty48 rfl (Ent.cells_len hok) hax) ?_
          refine WL.yes rfl rfl rfl ?_
          refine WL.val rfl (run_move) ?_
          refine WL.yes rfl rfl rfl ?_
          refine WL.enter rfl (run_callV (cap := []) en76 rfl rfl) (cmpE_spec _ hok) ?_
          rintro e w ⟨rfl, hq⟩
          refine ⟨_, rfl, ?_⟩
          refine WL.yes rfl rfl rfl ?_
          refine WL.val rfl (run_bT (run_eql rfl rfl) (by exact (cmp_eq0 _ _).2 hn)) ?_
          first | refine WL.val rfl (run_pickT rfl) ?_ | refine WL.val rfl (run_pickF rfl) ?_
          refine WL.val rfl (run_assign) ?_
          refine WL.val rfl (run_assign) ?_
          refine WL.nil ?_
          repeat (first | refine CW.seq ?_ | refine CW.block ?_ | refine CW.skip ?_ | refine CW.exit ?_ | refine CW.condT rfl ?_ | refine CW.condF rfl ?_)
          refine CW.ret ?_
          refine fin_ret2 rfl ?_
          rw [decide_eq_true hn] at hat2
          exact ⟨i, by rw [hat2]; rfl, hj, hp, hs.callE hq⟩
        · repeat (first | refine CW.seq ?_ | refine CW.block ?_ | refine CW.skip ?_ | refine CW.exit ?_ | refine CW.condT rfl ?_ | refine CW.condF rfl ?_)
          refine CW.reg ?_
          refine WL.val rfl (run_move) ?_
          refine WL.val rfl (run_move) ?_
          refine WL.val rfl (run_move) ?_
          refine WL.val rfl (run_bT (run_lss rfl rfl) (by omega)) ?_
          refine WL.val rfl (run_move) ?_
          refine WL.yes rfl rfl rfl ?_
          refine WL.val rfl (run_move) ?_
          refine WL.yes rfl rfl rfl ?_
          refine WL.val rfl (run_move) ?_
          refine WL.yes rfl rfl rfl ?_
          refine WL.val rfl (run_move) ?_
          refine WL.yes rfl rfl rfl ?_
          first | refine WL.val rfl (run_ixSlN Try.underlying22 ty48 rfl rfl (by omega)) ?_ | refine WL.val rfl (run_ixSl Try.underlying22 ty48 rfl rfl (by omega)) ?_
          refine WL.yes rfl rfl rfl ?_
          refine WL.val rfl (run_loadN ty48 rfl (Ent.cells_len hok) hax) ?_
          refine WL.yes rfl rfl rfl ?_
          refine WL.val rfl (run_move) ?_
          refine WL.yes rfl rfl rfl ?_
          refine WL.enter rfl (run_callV (cap := []) en76 rfl rfl) (cmpE_spec _ hok) ?_
          rintro e w ⟨rfl, hq⟩
          refine ⟨_, rfl, ?_⟩
          refine WL.yes rfl rfl rfl ?_
          refine WL.val rfl (run_bF (run_eql rfl rfl) (by exact fun h => hn ((cmp_eq0 _ _).1 h))) ?_
          first | refine WL.val rfl (run_pickT rfl) ?_ | refine WL.val rfl (run_pickF rfl) ?_
          refine WL.val rfl (run_assign) ?_
          refine WL.val rfl (run_assign) ?_
          refine WL.nil ?_
          repeat (first | refine CW.seq ?_ | refine CW.block ?_ | refine CW.skip ?_ | refine CW.exit ?_ | refine CW.condT rfl ?_ | refine CW.condF rfl ?_)
          refine CW.ret ?_
          refine fin_ret2 rfl ?_
          rw [decide_eq_false hn] at hat2
          exact ⟨i, by rw [hat2]; rfl, hj, hp, hs.callE hq⟩
      · have hat2 : At? l n i = false := by unfold At?; rw [List.getElem?_eq_none (by omega)]
        repeat (first | refine CW.seq ?_ | refine CW.block ?_ | refine CW.skip ?_ | refine CW.exit ?_ | refine CW.condT rfl ?_ | refine CW.condF rfl ?_)
        refine CW.reg ?_
        refine WL.val rfl (run_move) ?_
        refine WL.val rfl (run_move) ?_
        refine WL.val rfl (run_move) ?_
        refine WL.val rfl (run_bF (run_lss rfl rfl) (by omega)) ?_
        refine WL.val rfl (run_move) ?_
        first | refine WL.no rfl rfl rfl (.inl rfl) ?_ | refine WL.no rfl rfl rfl (.inr rfl) ?_
        first | refine WL.no rfl rfl rfl (.inl rfl) ?_ | refine WL.no rfl rfl rfl (.inr rfl) ?_
        first | refine WL.no rfl rfl rfl (.inl rfl) ?_ | refine WL.no rfl rfl rfl (.inr rfl) ?_
        first | refine WL.no rfl rfl rfl (.inl rfl) ?_ | refine WL.no rfl rfl rfl (.inr rfl) ?_
        first | refine WL.no rfl rfl rfl (.inl rfl) ?_ | refine WL.no rfl rfl rfl (.inr rfl) ?_
        first | refine WL.no rfl rfl rfl (.inl rfl) ?_ | refine WL.no rfl rfl rfl (.inr rfl) ?_
        first | refine WL.no rfl rfl rfl (.inl rfl) ?_ | refine WL.no rfl rfl rfl (.inr rfl) ?_
        first | refine WL.no rfl rfl rfl (.inl rfl) ?_ | refine WL.no rfl rfl rfl (.inr rfl) ?_
        first | refine WL.val rfl (run_pickT rfl) ?_ | refine WL.val rfl (run_pickF rfl) ?_
        refine WL.val rfl (run_assign) ?_
        refine WL.val rfl (run_assign) ?_
        refine WL.nil ?_
        repeat (first | refine CW.seq ?_ | refine CW.block ?_ | refine CW.skip ?_ | refine CW.exit ?_ | refine CW.condT rfl ?_ | refine CW.condF rfl ?_)
        refine CW.ret ?_
        refine fin_ret2 rfl ?_
        exact ⟨i, by rw [hat2]; rfl, hj, hp, hs⟩

theorem place_spec {v : Value} {l : List Ent} {n : List UInt8} (w0 : World) (hl : Es w0 v l) (hbb : l.length ≤ 1000000) :
    Calls Try.prog 55 #[v, str n] w0 fun e w' => ∃ i : Nat, e = .returned (.tuple #[.int .i64 i, .bool (At? l n i)]) ∧ i ≤ l.length ∧ (Rising l → PartAt l n i) ∧ Step [] [] w0 w' := by
  have hs : Step [] [] w0 w0 := Step.refl w0
  refine calls (n := 11) Try.func55 rfl rfl rfl ?_
  repeat (first | refine CW.seq ?_ | refine CW.block ?_ | refine CW.skip ?_ | refine CW.exit ?_ | refine CW.condT rfl ?_ | refine CW.condF rfl ?_)
  refine CW.reg ?_
  refine WL.val rfl (run_assign) ?_
  refine WL.val rfl (run_assign) ?_
  refine WL.nil ?_
  repeat (first | refine CW.seq ?_ | refine CW.block ?_ | refine CW.skip ?_ | refine CW.exit ?_ | refine CW.condT rfl ?_ | refine CW.condF rfl ?_)
  refine CW.reg ?_
  refine WL.val rfl (run_move) ?_
  refine WL.val rfl (run_move) ?_
  refine WL.enter rfl (run_call en75 rfl rfl) (search_spec _ hl hbb) ?_
  rintro e w ⟨i, rfl, hi, hp, hq⟩
  refine ⟨_, rfl, ?_⟩
  refine WL.val rfl (run_extract rfl rfl) ?_
  refine WL.val rfl (run_extract rfl rfl) ?_
  refine WL.val rfl (run_assign) ?_
  refine WL.val rfl (run_assign) ?_
  refine WL.nil ?_
  repeat (first | refine CW.seq ?_ | refine CW.block ?_ | refine CW.skip ?_ | refine CW.exit ?_ | refine CW.condT rfl ?_ | refine CW.condF rfl ?_)
  refine CW.ret ?_
  refine fin_ret2 rfl ?_
  exact ⟨i, rfl, hi, hp, hs.callE hq⟩

theorem cloneE_spec {v : Value} {l : List Ent} (w0 : World) (hl : Es w0 v l) (hb : l.length ≤ 1000000) :
    Calls Try.prog 56 #[v] w0 fun e w' => ∃ u Lu, e = .returned u ∧ OwnSl 48 34 u l.length (rows l) Lu ∧ Step [] Lu w0 w' := by
  have hs : Step [] [] w0 w0 := Step.refl w0
  have hobt := hl.1.form
  obtain ⟨a, c, rfl⟩ := hobt
  cases a with
  | none =>
    have hl0 : l = [] := by
      rcases hl.cases with ⟨c', hv', h⟩ | ⟨b, off, c', hv', hat⟩
      · exact h
      · cases hv'
    subst hl0
    refine calls (n := 8) Try.func56 rfl rfl rfl ?_
    repeat (first | refine CW.seq ?_ | refine CW.block ?_ | refine CW.skip ?_ | refine CW.exit ?_ | refine CW.condT rfl ?_ | refine CW.condF rfl ?_)
    refine CW.reg ?_
    refine WL.val rfl (run_assign) ?_
    refine WL.nil ?_
    repeat (first | refine CW.seq ?_ | refine CW.block ?_ | refine CW.skip ?_ | refine CW.exit ?_ | refine CW.condT rfl ?_ | refine CW.condF rfl ?_)
    refine CW.reg ?_
    refine WL.val rfl (run_move) ?_
    refine WL.val rfl (run_eqSlNil Try.underlying22 rfl) ?_
    refine WL.nil ?_
    repeat (first | refine CW.seq ?_ | refine CW.block ?_ | refine CW.skip ?_ | refine CW.exit ?_ | refine CW.condT rfl ?_ | refine CW.condF rfl ?_)
    refine CW.reg ?_
    refine WL.val rfl (run_assign) ?_
    refine WL.nil ?_
    repeat (first | refine CW.seq ?_ | refine CW.block ?_ | refine CW.skip ?_ | refine CW.exit ?_ | refine CW.condT rfl ?_ | refine CW.condF rfl ?_)
    refine CW.ret ?_
    refine fin_ret1 rfl ?_
    exact ⟨_, _, rfl, .nil _ _, hs⟩
  | some a =>
    refine calls (n := 8) Try.func56 rfl rfl rfl ?_
    repeat (first | refine CW.seq ?_ | refine CW.block ?_ | refine CW.skip ?_ | refine CW.exit ?_ | refine CW.condT rfl ?_ | refine CW.condF rfl ?_)
    refine CW.reg ?_
    refine WL.val rfl (run_assign) ?_
    refine WL.nil ?_
    repeat (first | refine CW.seq ?_ | refine CW.block ?_ | refine CW.skip ?_ | refine CW.exit ?_ | refine CW.condT rfl ?_ | refine CW.condF rfl ?_)
    refine CW.reg ?_
    refine WL.val rfl (run_move) ?_
    refine WL.val rfl (run_eqSlNil Try.underlying22 rfl) ?_
    refine WL.nil ?_
    repeat (first | refine CW.seq ?_ | refine CW.block ?_ | refine CW.skip ?_ | refine CW.exit ?_ | refine CW.condT rfl ?_ | refine CW.condF rfl ?_)
    refine CW.reg ?_
    refine WL.buildSlice (cs := []) Try.underlying22 ty48 rfl (by decide) rfl (by simp [Filled, Instr.fill]) rfl hs (fun b5 w hs => ?_)
    refine WL.val rfl (run_move) ?_
    refine WL.append Try.underlying22 Try.underlying22 ty48 rfl (by decide) rfl rfl ((OwnSl.mk (k := 0) (by simp))) (hs) (hl.1.step0 hs.clear) (rows_cells1 l) (by first | omega | (simp only [List.length_append, List.length_cons, List.length_nil]; omega)) rfl (fun v7 Lv7 w hv7 hs => ?_)
    refine WL.val rfl (run_assign) ?_
    refine WL.nil ?_
    repeat (first | refine CW.seq ?_ | refine CW.block ?_ | refine CW.skip ?_ | refine CW.exit ?_ | refine CW.condT rfl ?_ | refine CW.condF rfl ?_)
    refine CW.ret ?_
    refine fin_ret1 rfl ?_
    rw [Nat.zero_add, List.nil_append] at hv7
    exact ⟨_, _, rfl, hv7, Step.dropR (L2 := []) hs⟩
end Go.Gx
