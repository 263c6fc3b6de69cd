/- From a row's start to slices of entries, and from a walk's end to what the row asks. -/
import Derived.Test.YtkdmkjlchlcebaaRows
import Derived.Test.YtkdmkjlchlcebaaChecks
import Derived.ProofKit
import Derived.OpenShut
import Derived.JoinedCond
import Derived.Deep.Slices
import Derived.Deep.Strs
namespace Go.Gx
open Go.Proofs Go.ChangeShapes Go.WideShapes Go.ChangeAt Go.RowKit Go.Deep
open Go.Proofs.Ytkdmkjlchlcebaa (Rows.uptoBulk Rows.uptoBulkAll)
set_option linter.unusedVariables false
set_option linter.unusedSimpArgs false
set_option maxRecDepth 100000

theorem Step.below {L : List (Nat × Obj)} {w w' : World} (h : Step [] L w w') : Below w.heap.size w w' :=
  ⟨h.chg.os, h.chg.tape, h.chg.output, h.chg.size, fun k hk => h.chg.block k hk (by simp)⟩

section
variable {H : Type}
theorem bulk_pos : ∀ d : DataW H, 1 ≤ Rows.uptoBulk d
  | .lit x => by cases x <;> simp [Rows.uptoBulk]
  | .nil => by simp [Rows.uptoBulk]
  | .ptr d => by simp [Rows.uptoBulk]
  | .slice a b => by simp [Rows.uptoBulk]
  | .agg a => by simp [Rows.uptoBulk]
  | .iface _ d => by simp [Rows.uptoBulk]
  | .map a => by simp [Rows.uptoBulk]
  | .held _ => by simp [Rows.uptoBulk]
theorem bulk_len : ∀ l : List (DataW H), l.length ≤ Rows.uptoBulkAll l
  | [] => by simp [Rows.uptoBulkAll]
  | d :: l => by
    have h1 := bulk_pos d
    have h2 := bulk_len l
    simp only [Rows.uptoBulkAll, List.length_cons]
    omega
theorem bulk_mem : ∀ {l : List (DataW H)} {d : DataW H}, d ∈ l → Rows.uptoBulk d ≤ Rows.uptoBulkAll l
  | x :: l, d, h => by
    simp only [Rows.uptoBulkAll]
    rcases List.mem_cons.1 h with rfl | h
    · omega
    · have := bulk_mem h; omega
end

theorem choose_list {p : Nat → Ent → Prop} : ∀ n : Nat, (∀ i, i < n → ∃ x, p i x) → ∃ l : List Ent, l.length = n ∧ ∀ (i : Nat) (h : i < l.length), p i l[i]
  | 0, _ => ⟨[], rfl, fun i h => by simp at h⟩
  | n + 1, h => by
    have hobt := choose_list n fun i hi => h i (by omega)
    obtain ⟨l, hl, hp⟩ := hobt
    have hobt := h n (by omega)
    obtain ⟨x, hx⟩ := hobt
    refine ⟨l ++ [x], by simp [hl], fun i hi => ?_⟩
    by_cases hin : i < l.length
    · rw [List.getElem_append_left hin]; exact hp i hin
    · have : i = l.length := by simp at hi; omega
      subst this
      simp [hl]
      rw [hl] at *
      exact hx

theorem mapM_get {α β : Type} {f : α → Option β} : ∀ {l : List α} {r : List β}, l.mapM f = some r → r.length = l.length ∧ ∀ (i : Nat) (h : i < l.length), f l[i] = r[i]?
  | [], r, h => by
    simp at h
    subst h
    exact ⟨rfl, fun i h => by simp at h⟩
  | x :: l, r, h => by
    rw [List.mapM_cons] at h
    cases hx : f x with
    | none => rw [hx] at h; cases h
    | some y =>
      cases hl : l.mapM f with
      | none => rw [hx, hl] at h; cases h
      | some ys =>
        rw [hx, hl] at h
        obtain rfl : y :: ys = r := by simpa using h
        have hobt := mapM_get hl
        obtain ⟨h1, h2⟩ := hobt
        refine ⟨by simp [h1], fun i hi => ?_⟩
        cases i with
        | zero => simpa using hx
        | succ i => simpa using h2 i (by simpa using hi)
theorem At.cells {w : World} {base b off n : Nat} {cs : List Value} (h : w.cells? base ⟨b, off, none⟩ n = some cs) : cs.length = n ∧ At w b off cs := by
  unfold World.cells? at h
  split at h
  · have hobt := mapM_get h
    obtain ⟨h1, h2⟩ := hobt
    rw [List.length_range] at h1
    refine ⟨h1, fun j v hj => ?_⟩
    have hlt : j < n := by
      rw [← h1]
      exact (List.getElem?_eq_some_iff.1 hj).1
    have := h2 j (by simpa using hlt)
    rw [List.getElem_range, hj, add_off] at this
    exact this
  · cases h

section
variable {H : Type} {enc : TypeId × Value → H} {w : World} {base : Nat} {spare : Nat → Bool} {held : Bool}
/-- 32 bytes read as an array. -/
theorem trod_dig {fuel : Nat} {cs : List Value} {x : DataW H × List MemPlace} (h : DataW.trod enc Try.prog w base spare held fuel 46 cs = some x) : ∃ d : List UInt8, d.length = 32 ∧ cs = u8s d := by
  have hobt := DataW.trod_array Try.underlying46 h
  obtain ⟨xs, m, rfl, _, hl, hxl, hi⟩ := hobt
  have hl32 : cs.length = 32 := hl.trans ty46.cellsOf
  have each : ∀ (i : Nat) (h : i < cs.length), ∃ c : UInt8, cs[i] = .int .u8 c.toNat := fun i hlt => by
    have h1 := hi i (by omega)
    rw [List.getElem?_eq_getElem (by omega)] at h1
    have hc : Try.prog.cellsOf 5 = 1 := ty5.cellsOf
    rw [hc, Nat.mul_one] at h1
    have hobt := DataW.trod_int Try.underlying5 h1
    obtain ⟨n, hn, _, hw⟩ := hobt
    simp only [Lit.wf, Bool.and_eq_true, decide_eq_true_eq] at hw
    have h0 : (IntKind.u8).min = 0 := by decide
    have h255 : (IntKind.u8).max = 255 := by decide
    rw [h0, h255] at hw
    refine ⟨UInt8.ofNat n.toNat, ?_⟩
    have : cs[i] = .int .u8 n := by
      rw [List.drop_eq_getElem_cons hlt] at hn
      exact (List.cons.inj hn).1
    rw [this, UInt8.toNat_ofNat_of_lt' (show n.toNat < 256 by omega)]
    congr 1
    omega
  refine ⟨(List.range 32).map fun i => if h : i < cs.length then Classical.choose (each i h) else 0, by simp, ?_⟩
  apply List.ext_getElem
  · simp [u8s, hl32]
  · intro i h1 h2
    have := Classical.choose_spec (each i h1)
    simp [u8s, h1]
    exact this

theorem trod_ent {fuel : Nat} {cs : List Value} {x : DataW H × List MemPlace} (h : DataW.trod enc Try.prog w base spare held fuel 48 cs = some x) : ∃ y : Ent, y.ok ∧ cs = y.cells := by
  have hobt := trod_struct3 Try.underlying48 h
  obtain ⟨y0, y1, y2, n, rfl, hl, h0, h1, h2⟩ := hobt
  have hl34 : cs.length = 34 := hl.trans ty48.cellsOf
  have c9 : Try.prog.cellsOf 9 = 1 := ty9.cellsOf
  have c3 : Try.prog.cellsOf 3 = 1 := ty3.cellsOf
  have c46 : Try.prog.cellsOf 46 = 32 := ty46.cellsOf
  have hobt := DataW.trod_string Try.underlying9 h0
  obtain ⟨s, hs, hx0, hsz⟩ := hobt
  have hobt := DataW.trod_int Try.underlying3 h1
  obtain ⟨k, hk, _, hw⟩ := hobt
  have hobt := trod_dig h2
  obtain ⟨d, hd, hdd⟩ := hobt
  rw [c9] at hs
  rw [c3] at hk
  rw [c46] at hdd
  simp only [Lit.wf, Bool.and_eq_true, decide_eq_true_eq] at hw
  have h0 : (IntKind.i64).min = -9223372036854775808 := by decide
  have h255 : (IntKind.i64).max = 9223372036854775807 := by decide
  rw [h0, h255] at hw
  have hmx : maxLen = 9223372036854775807 := by decide
  refine ⟨⟨s.data.toList, k, d⟩, ⟨hd, hw.1, hw.2, ?_⟩, ?_⟩
  · show s.data.size ≤ _
    have : s.data.size = s.size := rfl
    omega
  · match cs, hl34 with
    | a :: b :: r, hl34 =>
      have ha : a = .string s := by simpa using hs
      have hb : b = .int .i64 k := by simpa using hk
      have hr : r = u8s d := by
        have : r.take 32 = u8s d := by simpa using hdd
        rwa [List.take_of_length_le (by simp at hl34; omega)] at this
      rw [ha, hb, hr]
      rfl

/-- An argument of entries, opened. -/
theorem open_es {v : Value} {d : DataW H} {ps : List MemPlace} {r : Reach} {b0 : Nat} (hval : Value.okWide Try.prog w r b0 22 v) (h : DataW.Trod enc Try.prog w 0 spare held 22 v d ps) : ∃ l, Es w v l ∧ Room v ∧ (Rows.uptoBulk d ≤ 1048576 → l.length ≤ 1048576) := by
  obtain ⟨fuel, h⟩ := h
  have hobt := okWide_slice Try.underlying22 hval
  obtain ⟨a0, len, cap, rfl⟩ := hobt
  rcases open_slice Try.underlying22 h with ⟨hc, _⟩ | ⟨a, len', cap', m, n, D, Pl, hc, _, hlc, hcm, hm, hx, hi⟩
  · have : Value.slice a0 len cap = .slice none 0 0 := by simpa [Value.cells] using hc
    cases this
    exact ⟨[], ⟨Sl.nil _ _ _, Oks.nil, by simp⟩, Nat.le_refl 0, fun _ => by simp⟩
  · have : Value.slice a0 len cap = .slice (some a) len' cap' := by simpa [Value.cells] using hc
    cases this
    have hspot : a.spot = none := by
      simp only [Value.okWide, Try.underlying22, Cell.okWide, Cell.ok] at hval
      exact hval.2.2.2.1
    obtain ⟨b, off, sp⟩ := a
    simp only at hspot
    subst hspot
    have hle : len ≤ m := by rw [hm]; split <;> omega
    have hd : d = (.slice ((List.range len).map D) ((List.range (m - len)).map fun j => D (len + j))) := congrArg Prod.fst hx
    subst hd
    have hmx : maxLen = 9223372036854775807 := by decide
    have hlen := bulk_len ((List.range len).map D)
    simp only [List.length_map, List.length_range] at hlen
    have c48 : Try.prog.cellsOf 48 = 34 := ty48.cellsOf
    obtain ⟨l, hl, hp⟩ := choose_list (p := fun i x => x.ok ∧ At w b (off + i * 34) x.cells) len fun i hi' => by
      have hobt := hi i (by omega)
      obtain ⟨cs', h1, h2⟩ := hobt
      rw [c48, add_off] at h1
      have hobt := trod_ent h2
      obtain ⟨x, hxo, hxc⟩ := hobt
      exact ⟨x, hxo, hxc ▸ (At.cells h1).2⟩
    have hok : Oks l := fun x hx => by
      have hobt := List.mem_iff_getElem.1 hx
      obtain ⟨i, hi', rfl⟩ := hobt
      exact (hp i hi').1
    refine ⟨l, ⟨?_, hok, by omega⟩, hlc, fun hb => by simp only [Rows.uptoBulk] at hb; omega⟩
    rw [hl]
    refine .mk (by rw [rows_len hok, hl]) ?_
    have join : ∀ (q : List Ent) (o : Nat), Oks q → (∀ (i : Nat) (h : i < q.length), At w b (o + i * 34) (q[i]).cells) → At w b o (rows q) := by
      intro q
      induction q with
      | nil => exact fun o _ _ => At.nil
      | cons x q ih =>
        intro o ho hq
        have h1 := hq 0 (by simp)
        have hxl := Ent.cells_len (ho x (by simp))
        have h2 := ih (o + 34) (fun y hy => ho y (by simp [hy])) (fun i hi' => by
          have := hq (i + 1) (by simpa using hi')
          rw [show o + 34 + i * 34 = o + (i + 1) * 34 by omega]
          simpa using this)
        intro j v hj
        simp only [rows, List.flatMap_cons] at hj
        rw [List.getElem?_append] at hj
        split at hj
        · have := h1 j v hj
          simpa using this
        · have := h2 (j - x.cells.length) v hj
          rw [show o + 34 + (j - x.cells.length) = o + j by omega] at this
          exact this
    exact join l off hok fun i hi' => (hp i hi').2
end
end Go.Gx
