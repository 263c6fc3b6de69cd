/- Items as an argument, with their texts' lengths bounded where the whole is. -/
import Derived.Test.YtepaojbhjgefiaaGreatDoorVtA
import Derived.Test.YtepaojbhjgefiaaGreatDoorC1
set_option linter.unusedVariables false
set_option linter.unusedSimpArgs false
namespace Go.Gx
open Go.Proofs Go.ChangeShapes Go.WideShapes Go.ChangeAt Go.RowKit Go.Deep
open Go.Proofs.YtepaojbhjgefiaaGreatDoor (Rows.uptoBulk Rows.uptoBulkAll)
set_option maxRecDepth 100000
section
variable {H : Type}
theorem bulk_mem : ∀ {l : List (DataW H)} {d : DataW H}, d ∈ l → Rows.uptoBulk d ≤ Rows.uptoBulkAll l
 | x :: l, d, h => by
  simp only [Rows.uptoBulkAll]
  rcases List.mem_cons.1 h with rfl | h
  ·omega
  ·have := bulk_mem h; omega
end
section
variable {H : Type} {enc : TypeId × Value → H} {w : World} {base : Nat} {spare : Nat → Bool} {held : Bool}
theorem trod_bytesB {fuel : Nat} {cs : List Value} {x : DataW H × List MemPlace} (h : DataW.trod enc Tryz.prog w base spare held fuel 38 cs = some x) : ∃ v s, cs = [v] ∧ Sl w 1 v s.length (u8s s) ∧ Room v ∧ s.length ≤ 9223372036854775807 ∧ s.length ≤ Rows.uptoBulk x.1 := by
 have hobt := trod_bytes h
 obtain ⟨v, s, hc, hs, hr, hl⟩ := hobt
 refine ⟨v, s, hc, hs, hr, hl, ?_⟩
 have hobt := hs.form
 obtain ⟨a, c, hv⟩ := hobt
 rcases open_slice Tryz.underlying38 h with ⟨hc2, _⟩ | ⟨a', len', cap', m, n, D, Pl, hc2, _, hlc, hcm, hm, hx, hi⟩
 ·rw [hc, hv] at hc2
  injection hc2 with h1 h2
  injection h1 with h3 h4 h5
  omega
 ·rw [hc, hv] at hc2
  injection hc2 with h1 h2
  injection h1 with h3 h4 h5
  have hlen := bulk_len ((List.range len').map D)
  simp only [List.length_map, List.length_range] at hlen
  rw [hx]
  simp only [Rows.uptoBulk]
  omega
theorem trod_itB {fuel : Nat} {cs : List Value} {x : DataW H × List MemPlace} (h : DataW.trod enc Tryz.prog w base spare held fuel 56 cs = some x) : ∃ y : It, y.Ok w ∧ cs = itC y.p y.d y.v ∧ y.p.length ≤ Rows.uptoBulk x.1 ∧ y.x.length ≤ Rows.uptoBulk x.1 := by
 have hobt := DataW.trod_struct Tryz.underlying56 h
 obtain ⟨xs, m, _, hxe, hl, hlen, hf⟩ := hobt
 have hl3 : cs.length = 3 := hl.trans ty56.cellsOf
 match xs, hlen, hxe with
 | [y0, y1, y2], _, hxe =>
  have f0 := hf 0 _ rfl
  have f1 := hf 1 _ rfl
  have f2 := hf 2 _ rfl
  have hobt := DataW.trod_string Tryz.underlying9 (f0.trans rfl)
  obtain ⟨s, hs, hse, hsz⟩ := hobt
  have hobt := DataW.trod_bool Tryz.underlying4 (f1.trans rfl)
  obtain ⟨o, ho, _⟩ := hobt
  have hobt := trod_bytesB (f2.trans rfl)
  obtain ⟨vb, b, hb, hbs, hbr, hbl, hbB⟩ := hobt
  replace hs : (cs.drop 0).take (Tryz.prog.cellsOf 9) = [.string s] := hs
  replace ho : (cs.drop 1).take (Tryz.prog.cellsOf 4) = [.bool o] := ho
  replace hb : (cs.drop 2).take (Tryz.prog.cellsOf 38) = [vb] := hb
  rw [ty9.cellsOf] at hs
  rw [ty4.cellsOf] at ho
  rw [ty38.cellsOf] at hb
  have hmx : maxLen = 9223372036854775807 := by decide
  refine ⟨⟨s.data.toList, o, vb, b⟩, ⟨hbs, ?_, hbl⟩, icells3 hl3 hs ho hb, ?_, ?_⟩
  ·show s.data.size ≤ _
   have : s.data.size = s.size := rfl
   omega
  ·rw [hxe]
   show s.data.toList.length ≤ _
   simp only [List.map_cons, List.map_nil, Rows.uptoBulk, Rows.uptoBulkAll, hse]
   omega
  ·rw [hxe]
   show b.length ≤ _
   simp only [List.map_cons, List.map_nil, Rows.uptoBulk, Rows.uptoBulkAll]
   omega
/-- An argument of items, opened. -/
theorem open_itemsB {v : Value} {d : DataW H} {ps : List MemPlace} {r : Reach} {b0 : Nat} (hval : Value.okWide Tryz.prog w r b0 22 v) (h : DataW.Trod enc Tryz.prog w 0 spare held 22 v d ps) : ∃ l, Its w v l ∧ Room v ∧ (Rows.uptoBulk d ≤ 1048576 → l.length ≤ 1048576 ∧ ∀ x ∈ l, x.p.length ≤ 1048576 ∧ x.x.length ≤ 1048576) := by
 obtain ⟨fuel, h⟩ := h
 have hobt := okWide_slice Tryz.underlying22 hval
 obtain ⟨a0, len, cap, rfl⟩ := hobt
 rcases open_slice Tryz.underlying22 h with ⟨hc, _⟩ | ⟨a, len', cap', m, n, D, Pl, hc, _, hlc, hcm, hm, hx, hi⟩
 ·have : Value.slice a0 len cap = .slice none 0 0 := by simpa [Value.cells] using hc
  cases this
  exact ⟨[], ⟨Sl.nil _ _ _, fun x hx => (by cases hx), by simp⟩, Nat.le_refl 0, fun _ => ⟨by simp, fun x hx => by cases hx⟩⟩
 ·have : Value.slice a0 len cap = .slice (some a) len' cap' := by simpa [Value.cells] using hc
  cases this
  have hmx : maxLen = 9223372036854775807 := by decide
  have hle : len ≤ m := by rw [hm]; split <;> omega
  have hd : d = (.slice ((List.range len).map D) ((List.range (m - len)).map fun j => D (len + j))) := congrArg Prod.fst hx
  subst hd
  have hlen := bulk_len ((List.range len).map D)
  simp only [List.length_map, List.length_range] at hlen
  have c48 : Tryz.prog.cellsOf 56 = 3 := ty56.cellsOf
  by_cases h0 : len = 0
  ·subst h0
   exact ⟨[], ⟨⟨rfl, .inl ⟨_, _, rfl, rfl⟩⟩, fun x hx => (by cases hx), by simp⟩, hlc, fun _ => ⟨by simp, fun x hx => by cases hx⟩⟩
  have hspot : a.spot = none := by
   have hobt := hi 0 (by omega)
   obtain ⟨cs', h1, _⟩ := hobt
   rw [c48] at h1
   exact cells_spot (a := a.add (0 * 3)) h1 (by decide)
  obtain ⟨b, off, sp⟩ := a
  simp only at hspot
  subst hspot
  obtain ⟨l, hl, hp⟩ := choose_any (p := fun i x => It.Ok w x ∧ At w b (off + i * 3) (itC x.p x.d x.v) ∧ x.p.length ≤ Rows.uptoBulk (D i) ∧ x.x.length ≤ Rows.uptoBulk (D i)) len fun i hi' => by
   have hobt := hi i (by omega)
   obtain ⟨cs', h1, h2⟩ := hobt
   rw [c48, add_off] at h1
   have hobt := trod_itB h2
   obtain ⟨x, hxo, hxc, hB1, hB2⟩ := hobt
   exact ⟨x, hxo, hxc ▸ (At.cells h1).2, hB1, hB2⟩
  have hok : ∀ x ∈ l, x.Ok w := fun x hx => by
   have hobt := List.mem_iff_getElem.1 hx
   obtain ⟨i, hi', rfl⟩ := hobt
   exact (hp i hi').1
  refine ⟨l, ⟨?_, hok, by omega⟩, hlc, fun hb => by
   simp only [Rows.uptoBulk] at hb
   refine ⟨by omega, fun x hx => ?_⟩
   have hobt := List.mem_iff_getElem.1 hx
   obtain ⟨i, hi', rfl⟩ := hobt
   have hobt := hp i hi'
   obtain ⟨_, _, h5, h6⟩ := hobt
   have h7 : Rows.uptoBulk (D i) ≤ Rows.uptoBulkAll ((List.range len).map D) := bulk_mem (List.mem_map.2 ⟨i, by simp; omega, rfl⟩)
   omega⟩
  rw [hl]
  refine .mk (by rw [its_len, hl]) ?_
  intro j v hj
  have hjl := (List.getElem?_eq_some_iff.1 hj).1
  rw [its_len] at hjl
  have hq : j / 3 < l.length := by omega
  have h1 := its_at (j / 3) (j % 3) hq (by omega)
  rw [show j / 3 * 3 + j % 3 = j by omega, hj] at h1
  have h2 := (hp _ hq).2.1 _ _ h1.symm
  rwa [show off + j / 3 * 3 + j % 3 = off + j by omega] at h2
end
end Go.Gx
