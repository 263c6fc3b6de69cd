/- Steps as an argument, with their bytes' lengths bounded where the whole is. -/
import Derived.Test.YtepaojbhjgefiaaGreatDoorVnA
import Derived.Test.YtepaojbhjgefiaaGreatDoorC1
set_option linter.unusedVariables false
set_option linter.unusedSimpArgs false
namespace Go.Gx
open Go.Proofs Go.ChangeShapes Go.WideShapes Go.ChangeAt Go.RowKit Go.Deep
open Go.Proofs.YtepaojbhjgefiaaGreatDoor (Rows.uptoBulk Rows.uptoBulkAll)
set_option maxRecDepth 100000
section
variable {H : Type} {enc : TypeId × Value → H} {w : World} {base : Nat} {spare : Nat → Bool} {held : Bool}
theorem trod_stvB {fuel : Nat} {cs : List Value} {x : DataW H × List MemPlace} (h : DataW.trod enc Tryz.prog w base spare held fuel 40 cs = some x) : ∃ y : Stv, y.Ok w ∧ cs = y.cells ∧ y.b.length ≤ Rows.uptoBulk x.1 := by
 have hobt := DataW.trod_struct Tryz.underlying40 h
 obtain ⟨xs, m, _, hxe, hl, hlen, hf⟩ := hobt
 have hl5 : cs.length = 5 := hl.trans ty40.cellsOf
 match xs, hlen, hxe with
 | [y0, y1, y2, y3, y4], _, hxe =>
  have f0 := hf 0 _ rfl
  have f1 := hf 1 _ rfl
  have f2 := hf 2 _ rfl
  have f3 := hf 3 _ rfl
  have f4 := hf 4 _ rfl
  have hobt := DataW.trod_int Tryz.underlying3 (f0.trans rfl)
  obtain ⟨k, hk, _, hwk⟩ := hobt
  have hobt := DataW.trod_int Tryz.underlying3 (f1.trans rfl)
  obtain ⟨h', hh, _, hwh⟩ := hobt
  have hobt := DataW.trod_int Tryz.underlying3 (f2.trans rfl)
  obtain ⟨n, hn, _, hwn⟩ := hobt
  have hobt := DataW.trod_string Tryz.underlying9 (f3.trans rfl)
  obtain ⟨s, hs, _, hsz⟩ := hobt
  have hobt := trod_bytesB (f4.trans rfl)
  obtain ⟨vb, b, hb, hbs, hbr, hbl, hbB⟩ := hobt
  replace hk : (cs.drop 0).take (Tryz.prog.cellsOf 3) = [.int .i64 k] := hk
  replace hh : (cs.drop 1).take (Tryz.prog.cellsOf 3) = [.int .i64 h'] := hh
  replace hn : (cs.drop 2).take (Tryz.prog.cellsOf 3) = [.int .i64 n] := hn
  replace hs : (cs.drop 3).take (Tryz.prog.cellsOf 9) = [.string s] := hs
  replace hb : (cs.drop 4).take (Tryz.prog.cellsOf 38) = [vb] := hb
  rw [ty3.cellsOf] at hk hh hn
  rw [ty9.cellsOf] at hs
  rw [ty38.cellsOf] at hb
  have hmx : maxLen = 9223372036854775807 := by decide
  refine ⟨⟨k, h', n, s.data.toList, vb, b⟩, ⟨lit_i64 hwk, lit_i64 hwh, lit_i64 hwn, ?_, hbs, hbl⟩, icells5 hl5 hk hh hn hs hb, ?_⟩
  ·show s.data.size ≤ _
   have : s.data.size = s.size := rfl
   omega
  ·rw [hxe]
   show b.length ≤ _
   simp only [List.map_cons, List.map_nil, Rows.uptoBulk, Rows.uptoBulkAll]
   omega
/-- An argument of steps, opened. -/
theorem open_vstepsB {v : Value} {d : DataW H} {ps : List MemPlace} {r : Reach} {b0 : Nat} (hval : Value.okWide Tryz.prog w r b0 37 v) (h : DataW.Trod enc Tryz.prog w 0 spare held 37 v d ps) : ∃ l, Stvs w v l ∧ Room v ∧ (Rows.uptoBulk d ≤ 1048576 → l.length ≤ 1048576 ∧ ∀ x ∈ l, x.b.length ≤ 1048576) := by
 obtain ⟨fuel, h⟩ := h
 have hobt := okWide_slice Tryz.underlying37 hval
 obtain ⟨a0, len, cap, rfl⟩ := hobt
 rcases open_slice Tryz.underlying37 h with ⟨hc, _⟩ | ⟨a, len', cap', m, n, D, Pl, hc, _, hlc, hcm, hm, hx, hi⟩
 ·have : Value.slice a0 len cap = .slice none 0 0 := by simpa [Value.cells] using hc
  cases this
  exact ⟨[], ⟨Sl.nil _ _ _, fun x hx => (by cases hx), by simp⟩, Nat.le_refl 0, fun _ => ⟨by simp, fun x hx => by cases hx⟩⟩
 ·have : Value.slice a0 len cap = .slice (some a) len' cap' := by simpa [Value.cells] using hc
  cases this
  have hmx : maxLen = 9223372036854775807 := by decide
  have hle : len ≤ m := by rw [hm]; split <;> omega
  have hd : d = (.slice ((List.range len).map D) ((List.range (m - len)).map fun j => D (len + j))) := congrArg Prod.fst hx
  subst hd
  have hlen := bulk_len ((List.range len).map D)
  simp only [List.length_map, List.length_range] at hlen
  have c48 : Tryz.prog.cellsOf 40 = 5 := ty40.cellsOf
  by_cases h0 : len = 0
  ·subst h0
   exact ⟨[], ⟨⟨rfl, .inl ⟨_, _, rfl, rfl⟩⟩, fun x hx => (by cases hx), by simp⟩, hlc, fun _ => ⟨by simp, fun x hx => by cases hx⟩⟩
  have hspot : a.spot = none := by
   have hobt := hi 0 (by omega)
   obtain ⟨cs', h1, _⟩ := hobt
   rw [c48] at h1
   exact cells_spot (a := a.add (0 * 5)) h1 (by decide)
  obtain ⟨b, off, sp⟩ := a
  simp only at hspot
  subst hspot
  obtain ⟨l, hl, hp⟩ := choose_any (p := fun i x => Stv.Ok w x ∧ At w b (off + i * 5) x.cells ∧ x.b.length ≤ Rows.uptoBulk (D i)) len fun i hi' => by
   have hobt := hi i (by omega)
   obtain ⟨cs', h1, h2⟩ := hobt
   rw [c48, add_off] at h1
   have hobt := trod_stvB h2
   obtain ⟨x, hxo, hxc, hB1⟩ := hobt
   exact ⟨x, hxo, hxc ▸ (At.cells h1).2, hB1⟩
  have hok : ∀ x ∈ l, x.Ok w := fun x hx => by
   have hobt := List.mem_iff_getElem.1 hx
   obtain ⟨i, hi', rfl⟩ := hobt
   exact (hp i hi').1
  refine ⟨l, ⟨?_, hok, by omega⟩, hlc, fun hb => by
   simp only [Rows.uptoBulk] at hb
   refine ⟨by omega, fun x hx => ?_⟩
   have hobt := List.mem_iff_getElem.1 hx
   obtain ⟨i, hi', rfl⟩ := hobt
   have hobt := hp i hi'
   obtain ⟨_, _, h5⟩ := hobt
   have h7 : Rows.uptoBulk (D i) ≤ Rows.uptoBulkAll ((List.range len).map D) := bulk_mem (List.mem_map.2 ⟨i, by simp; omega, rfl⟩)
   omega⟩
  rw [hl]
  refine .mk (by rw [stvs_len, hl]) ?_
  intro j v hj
  have hjl := (List.getElem?_eq_some_iff.1 hj).1
  rw [stvs_len] at hjl
  have hq : j / 5 < l.length := by omega
  have h1 := stvs_at (j / 5) (j % 5) hq (by omega)
  rw [show j / 5 * 5 + j % 5 = j by omega, hj] at h1
  have h2 := (hp _ hq).2.1 _ _ h1.symm
  rwa [show off + j / 5 * 5 + j % 5 = off + j by omega] at h2
end
end Go.Gx
