/- More openings of a row's arguments: bytes, texts, ints, single entries; arguments stay as they were. -/
import Derived.Test.YtkdmkjlchlcebaaFrame
import Derived.Test.YtkdmkjlchlcebaaRR3
import Derived.ChangeMaps5
import Derived.SliceStrings
namespace Go.Gx
open Go.Proofs Go.ChangeShapes Go.WideShapes Go.ChangeAt Go.RowKit Go.Deep
open Go.Proofs.Ytkdmkjlchlcebaa (Rows.uptoBulk Rows.uptoBulkAll)
set_option linter.unusedVariables false
set_option linter.unusedSimpArgs false
set_option maxRecDepth 100000

section
variable {H : Type} {enc : TypeId × Value → H} {w : World} {spare : Nat → Bool} {held : Bool}

theorem trodAll_stays {P : Program} (hl : laidOutB P = true) {W W' : World} (hb : Below W.heap.size W W') : ∀ {ts : List TypeId} {vs : List Value} {ds : List (DataW H)} {p : List MemPlace},
    DataW.TrodAll enc P W 0 (fun _ => true) true ts vs ds p → (∀ x ∈ p, x.block < W.heap.size) → (∀ t ∈ ts, P.readableRec t = true ∧ t < P.types.size) → DataW.TrodAll enc P W' 0 (fun b => decide (b < W.heap.size)) true ts vs ds p
  | [], vs, ds, p, h, _, _ => by
    have hobt := trodAll_nil h
    obtain ⟨rfl, rfl, rfl⟩ := hobt
    exact trodAll_mk0
  | t :: ts, vs, ds, p, h, hlt, hr => by
    have hobt := trodAll_cons h
    obtain ⟨v, vs', d, ds', p', q, rfl, rfl, rfl, h0, h1⟩ := hobt
    exact trodAll_cons_mk (Below.trod hl (hr t (by simp)).1 (hr t (by simp)).2 h0 hb (fun x hx => hlt x (by simp [hx]))) (trodAll_stays hl hb h1 (fun x hx => hlt x (by simp [hx])) (fun t ht => hr t (by simp [ht])))

theorem open_i64 {v : Value} {d : DataW H} {ps : List MemPlace} {r : Reach} {b0 : Nat} {base : Nat} (hval : Value.okWide Try.prog w r b0 3 v) (h : DataW.Trod enc Try.prog w base spare held 3 v d ps) : ∃ n : Int, v = .int .i64 n ∧ -9223372036854775808 ≤ n ∧ n ≤ 9223372036854775807 := by
  have hobt := open_int Try.underlying3 hval h
  obtain ⟨n, rfl, _, _, hw⟩ := hobt
  simp only [Lit.wf, Bool.and_eq_true, decide_eq_true_eq] at hw
  have h0 : (IntKind.i64).min = -9223372036854775808 := by decide
  have h255 : (IntKind.i64).max = 9223372036854775807 := by decide
  rw [h0, h255] at hw
  exact ⟨n, rfl, hw.1, hw.2⟩
theorem open_b {v : Value} {d : DataW H} {ps : List MemPlace} {r : Reach} {b0 : Nat} {base : Nat} (hval : Value.okWide Try.prog w r b0 4 v) (h : DataW.Trod enc Try.prog w base spare held 4 v d ps) : ∃ b : Bool, v = .bool b := by
  have hobt := open_bool Try.underlying4 hval h
  obtain ⟨n, rfl, _⟩ := hobt
  exact ⟨n, rfl⟩
theorem open_str {v : Value} {d : DataW H} {ps : List MemPlace} {r : Reach} {b0 : Nat} {base : Nat} (hval : Value.okWide Try.prog w r b0 9 v) (h : DataW.Trod enc Try.prog w base spare held 9 v d ps) : ∃ s : List UInt8, v = str s ∧ s.length ≤ 9223372036854775807 ∧ (Rows.uptoBulk d ≤ 1048576 → s.length ≤ 1048576) := by
  have hobt := Go.ChangeMaps.open_string Try.underlying9 hval h
  obtain ⟨s, rfl, rfl, _, hsz⟩ := hobt
  have hmx : maxLen = 9223372036854775807 := by decide
  refine ⟨s.data.toList, rfl, ?_, fun hb => by simp only [Rows.uptoBulk] at hb; omega⟩
  have : s.data.toList.length = s.size := by simp
  omega
theorem open_ent {v : Value} {d : DataW H} {ps : List MemPlace} {r : Reach} {b0 : Nat} (hval : Value.okWide Try.prog w r b0 48 v) (h : DataW.Trod enc Try.prog w 0 spare held 48 v d ps) : ∃ x : Ent, v = .agg x.cells.toArray ∧ x.ok := by
  obtain ⟨fuel, h⟩ := h
  have hobt := trod_ent h
  obtain ⟨x, hx, hc⟩ := hobt
  refine ⟨x, ?_, hx⟩
  cases v with
  | agg cs =>
    have : cs.toList = x.cells := hc
    rw [← this]
  | _ => exfalso; simp [Value.okWide, Cell.okWide] at hval

theorem At.join {w : World} {b : Nat} {vs : List Value} (off : Nat) (h : ∀ i v, vs[i]? = some v → w.cell? ⟨b, off + i, none⟩ = some v) : At w b off vs := h

/-- An argument of bytes, opened. -/
theorem open_bytes {v : Value} {d : DataW H} {ps : List MemPlace} {r : Reach} {b0 : Nat} (hval : Value.okWide Try.prog w r b0 29 v) (h : DataW.Trod enc Try.prog w 0 spare held 29 v d ps) : ∃ s : List UInt8, Sl w 1 v s.length (u8s s) ∧ Room v ∧ s.length ≤ 9223372036854775807 ∧ (Rows.uptoBulk d ≤ 1048576 → s.length ≤ 1048576) := by
  obtain ⟨fuel, h⟩ := h
  have hobt := okWide_slice Try.underlying29 hval
  obtain ⟨a0, len, cap, rfl⟩ := hobt
  have hc1 : Try.prog.cellsOf 5 = 1 := ty5.cellsOf
  rcases ChangeShapes.open_ints (k := .u8) Try.underlying29 Try.underlying5 hc1 h with ⟨hc, _⟩ | ⟨a, len', cap', zs, hc, _, hlc, hcm, hm, hx, hi, hwf⟩
  · have : Value.slice a0 len cap = .slice none 0 0 := by simpa [Value.cells] using hc
    cases this
    exact ⟨[], Sl.nil _ _ _, Nat.le_refl 0, by simp, fun _ => by simp⟩
  · have : Value.slice a0 len cap = .slice (some a) len' cap' := by simpa [Value.cells] using hc
    cases this
    have hspot : a.spot = none := by
      simp only [Value.okWide, Try.underlying29, Cell.okWide, Cell.ok] at hval
      exact hval.2.2.2.1
    obtain ⟨b, off, sp⟩ := a
    simp only at hspot
    subst hspot
    have hle : len ≤ zs.length := by rw [hm]; split <;> omega
    have hd : d = _ := congrArg Prod.fst hx
    have hmx : maxLen = 9223372036854775807 := by decide
    have hlen := bulk_len (H := H) (lits .u8 (zs.take len))
    have hll : (lits (H := H) .u8 (zs.take len)).length = len := by simp [lits]; omega
    have hval8 : ∀ n ∈ zs, ∃ c : UInt8, n = c.toNat := fun n hn => by
      have hw := hwf n hn
      simp only [Lit.wf, Bool.and_eq_true, decide_eq_true_eq] at hw
      have h0 : (IntKind.u8).min = 0 := by decide
      have h255 : (IntKind.u8).max = 255 := by decide
      rw [h0, h255] at hw
      refine ⟨UInt8.ofNat n.toNat, ?_⟩
      rw [UInt8.toNat_ofNat_of_lt' (show n.toNat < 256 by omega)]
      omega
    have hu : ((zs.take len).map fun n => Value.int .u8 n) = u8s ((zs.take len).map fun n => UInt8.ofNat n.toNat) := by
      unfold u8s
      rw [List.map_map]
      apply List.map_congr_left
      intro n hn
      have hobt := hval8 n (List.mem_of_mem_take hn)
      obtain ⟨c, rfl⟩ := hobt
      simp
    refine ⟨(zs.take len).map fun n => UInt8.ofNat n.toNat, ?_, hlc, by simp; omega, fun hb => by rw [hd] at hb; simp only [Rows.uptoBulk] at hb; simp; omega⟩
    have hl2 : ((zs.take len).map fun n => UInt8.ofNat n.toNat).length = len := by simp; omega
    rw [hl2]
    refine .mk (by simp [u8s]; omega) ?_
    rw [← hu]
    intro j v hj
    rw [List.getElem?_map] at hj
    cases hz : (zs.take len)[j]? with
    | none => rw [hz] at hj; cases hj
    | some n =>
      rw [hz] at hj
      obtain rfl : Value.int .u8 n = v := by simpa using hj
      have hjl : j < len := by
        have := (List.getElem?_eq_some_iff.1 hz).1
        simp at this
        omega
      have h2 := hi j (by omega)
      rw [add_off] at h2
      rw [h2]
      rw [List.getElem?_take, if_pos hjl] at hz
      simp [List.getD, hz]

/-- An argument of texts, opened. -/
theorem open_strs {v : Value} {d : DataW H} {ps : List MemPlace} {r : Reach} {b0 : Nat} (hval : Value.okWide Try.prog w r b0 54 v) (h : DataW.Trod enc Try.prog w 0 spare held 54 v d ps) : ∃ l : List (List UInt8), (Sl w 1 v l.length (l.map str) ∧ l.length ≤ 9223372036854775807) ∧ Room v ∧ (Rows.uptoBulk d ≤ 1048576 → l.length ≤ 1048576) := by
  obtain ⟨fuel, h⟩ := h
  have hobt := okWide_slice Try.underlying54 hval
  obtain ⟨a0, len, cap, rfl⟩ := hobt
  have hc1 : Try.prog.cellsOf 9 = 1 := ty9.cellsOf
  have hmx : maxLen = 9223372036854775807 := by decide
  rcases Go.ChangeShapes.open_strings Try.underlying54 Try.underlying9 hc1 h with ⟨hc, _⟩ | ⟨a, len', cap', ss, hc, _, hlc, hcm, hm, hx, hi, hwf⟩
  · have : Value.slice a0 len cap = .slice none 0 0 := by simpa [Value.cells] using hc
    cases this
    exact ⟨[], ⟨Sl.nil _ _ _, by simp⟩, Nat.le_refl 0, fun _ => by simp⟩
  · have : Value.slice a0 len cap = .slice (some a) len' cap' := by simpa [Value.cells] using hc
    cases this
    have hspot : a.spot = none := by
      simp only [Value.okWide, Try.underlying54, Cell.okWide, Cell.ok] at hval
      exact hval.2.2.2.1
    obtain ⟨b, off, sp⟩ := a
    simp only at hspot
    subst hspot
    have hle : len ≤ ss.length := by rw [hm]; split <;> omega
    have hd : d = _ := congrArg Prod.fst hx
    have hlen := bulk_len (H := H) (ChangeShapes.strs (ss.take len))
    have hll : (ChangeShapes.strs (H := H) (ss.take len)).length = len := by simp [ChangeShapes.strs]; omega
    refine ⟨(ss.take len).map fun s => s.data.toList, ⟨?_, by simp; omega⟩, hlc, fun hb => by rw [hd] at hb; simp only [Rows.uptoBulk] at hb; simp; omega⟩
    have hl2 : ((ss.take len).map fun s : ByteArray => s.data.toList).length = len := by simp; omega
    rw [hl2]
    refine .mk (by simp; omega) ?_
    intro j v hj
    rw [List.map_map, List.getElem?_map] at hj
    cases hz : (ss.take len)[j]? with
    | none => rw [hz] at hj; cases hj
    | some s =>
      rw [hz] at hj
      obtain rfl : str s.data.toList = v := by simpa using hj
      have hjl : j < len := by
        have := (List.getElem?_eq_some_iff.1 hz).1
        simp at this
        omega
      have h2 := hi j (by omega)
      rw [add_off] at h2
      rw [h2]
      rw [List.getElem?_take, if_pos hjl] at hz
      simp [List.getD, hz, str]
end
end Go.Gx
