/- Arguments of the laws of files: items, steps, quotas, opened. -/
import Derived.Test.YtepaojbhjgefiaaGreatDoorTied
import Derived.Test.YtepaojbhjgefiaaGreatDoorC8
import Derived.Test.YtepaojbhjgefiaaGreatDoorC1
set_option linter.unusedVariables false
set_option linter.unusedSimpArgs false
namespace Go.Gx
open Go.Proofs Go.ChangeShapes Go.WideShapes Go.ChangeAt Go.RowKit Go.Deep
open Go.Proofs.YtepaojbhjgefiaaGreatDoor (Rows.uptoBulk Rows.uptoBulkAll)
set_option maxRecDepth 100000
/-- A step of a script. -/
structure Stv where
 k : Int
 h : Int
 n : Int
 p : List UInt8
 v : Value
 b : List UInt8
def Stv.cells (x : Stv) : List Value := [.int .i64 x.k, .int .i64 x.h, .int .i64 x.n, str x.p, x.v]
structure Stv.Ok (w : World) (x : Stv) : Prop where
 hk : i64s x.k
 hh : i64s x.h
 hn : i64s x.n
 hp : x.p.length ≤ 9223372036854775807
 hb : Sl w 1 x.v x.b.length (u8s x.b)
 lb : x.b.length ≤ 9223372036854775807
def stvs (l : List Stv) : List Value := l.flatMap Stv.cells
/-- A script as a value. -/
structure Stvs (w : World) (v : Value) (l : List Stv) : Prop where
 sl : Sl w 5 v l.length (stvs l)
 ok : ∀ x ∈ l, x.Ok w
 len : l.length ≤ 9223372036854775807
theorem stvs_len : ∀ l : List Stv, (stvs l).length = l.length * 5
 | [] => rfl
 | x :: l => by
  have h2 := stvs_len l
  rw [stvs] at h2
  rw [stvs, List.flatMap_cons, List.length_append, h2, List.length_cons]
  show 5 + l.length * 5 = _
  omega
theorem stvs_at : ∀ {l : List Stv} (i j : Nat) (h : i < l.length), j < 5 → (stvs l)[i * 5 + j]? = (l[i].cells)[j]?
 | x :: l, 0, j, _, hj => by
  rw [stvs, List.flatMap_cons, Nat.zero_mul, Nat.zero_add, List.getElem?_append_left (by show j < 5; exact hj)]
  rfl
 | x :: l, i + 1, j, h, hj => by
  have h5 : x.cells.length = 5 := rfl
  rw [stvs, List.flatMap_cons, List.getElem?_append_right (by rw [h5]; omega), h5, show (i + 1) * 5 + j - 5 = i * 5 + j by omega]
  have h2 := stvs_at (l := l) i j (by simpa using h) hj
  simpa [stvs] using h2
theorem Stvs.at {w : World} {v : Value} {l : List Stv} (h : Stvs w v l) {i : Nat} {x : Stv} (hx : l[i]? = some x) : ∃ b off c, v = .slice (some ⟨b, off, none⟩) l.length c ∧ At w b (off + i * 5) x.cells := by
 have hobt := List.getElem?_eq_some_iff.1 hx
 obtain ⟨hlt, rfl⟩ := hobt
 have hobt := h.sl
 obtain ⟨hl, ⟨a, c, hc, h1⟩ | ⟨b, off, c, hc, hat⟩⟩ := hobt
 ·omega
 ·refine ⟨b, off, c, hc, fun j v hj => ?_⟩
  have hj5 : j < 5 := (List.getElem?_eq_some_iff.1 hj).1
  have h1 := stvs_at i j hlt hj5
  rw [Nat.add_assoc]
  exact hat _ _ (h1.trans hj)
theorem mapM_get {α β : Type} {f : α → Option β} : ∀ {l : List α} {r : List β}, l.mapM f = some r → r.length = l.length ∧ ∀ (i : Nat) (h : i < l.length), f l[i] = r[i]?
 | [], r, h => by
  simp at h
  subst h
  exact ⟨rfl, fun i h => by simp at h⟩
 | x :: l, r, h => by
  rw [List.mapM_cons] at h
  cases hx : f x with
  | none => rw [hx] at h; cases h
  | some y =>
   cases hl : l.mapM f with
   | none => rw [hx, hl] at h; cases h
   | some ys =>
    rw [hx, hl] at h
    obtain rfl : y :: ys = r := by simpa using h
    have hobt := mapM_get hl
    obtain ⟨h1, h2⟩ := hobt
    refine ⟨by simp [h1], fun i hi => ?_⟩
    cases i with
    | zero => simpa using hx
    | succ i => simpa using h2 i (by simpa using hi)
theorem At.cells {w : World} {base b off n : Nat} {cs : List Value} (h : w.cells? base ⟨b, off, none⟩ n = some cs) : cs.length = n ∧ At w b off cs := by
 unfold World.cells? at h
 split at h
 ·have hobt := mapM_get h
  obtain ⟨h1, h2⟩ := hobt
  rw [List.length_range] at h1
  refine ⟨h1, fun j v hj => ?_⟩
  have hlt : j < n := by
   rw [← h1]
   exact (List.getElem?_eq_some_iff.1 hj).1
  have := h2 j (by simpa using hlt)
  rw [List.getElem_range, hj, add_off] at this
  exact this
 ·cases h
theorem choose_any {α : Type} {p : Nat → α → Prop} : ∀ n : Nat, (∀ i, i < n → ∃ x, p i x) → ∃ l : List α, l.length = n ∧ ∀ (i : Nat) (h : i < l.length), p i l[i]
 | 0, _ => ⟨[], rfl, fun i h => by simp at h⟩
 | n + 1, h => by
  have hobt := choose_any n fun i hi => h i (by omega)
  obtain ⟨l, hl, hp⟩ := hobt
  have hobt := h n (by omega)
  obtain ⟨x, hx⟩ := hobt
  refine ⟨l ++ [x], by simp [hl], fun i hi => ?_⟩
  by_cases hin : i < l.length
  ·rw [List.getElem_append_left hin]; exact hp i hin
  ·have : i = l.length := by simp at hi; omega
   subst this
   simp [hl]
   rw [hl] at *
   exact hx
theorem cell_spot {w : World} {a : Addr} {v : Value} (h : w.cell? a = some v) : a.spot = none := by
 unfold World.cell? at h
 split at h
 ·split at h
  ·cases h
  ·rename_i hs
   cases hsp : a.spot with
   | none => rfl
   | some s => rw [hsp] at hs; simp at hs
 ·cases h
theorem cells_spot {w : World} {base n : Nat} {a : Addr} {cs : List Value} (h : w.cells? base a n = some cs) (hn : 0 < n) : a.spot = none := by
 unfold World.cells? at h
 split at h
 ·have hobt := mapM_get h
  obtain ⟨h1, h2⟩ := hobt
  rw [List.length_range] at h1
  have h3 := h2 0 (by simpa using hn)
  rw [List.getElem_range, List.getElem?_eq_getElem (by omega)] at h3
  exact cell_spot (a := a.add 0) h3
 ·cases h
section
variable {H : Type}
theorem bulk_pos : ∀ d : DataW H, 1 ≤ Rows.uptoBulk d
 | .lit x => by cases x <;> simp [Rows.uptoBulk]
 | .nil => by simp [Rows.uptoBulk]
 | .ptr d => by simp [Rows.uptoBulk]
 | .slice a b => by simp [Rows.uptoBulk]
 | .agg a => by simp [Rows.uptoBulk]
 | .iface _ d => by simp [Rows.uptoBulk]
 | .map a => by simp [Rows.uptoBulk]
 | .held _ => by simp [Rows.uptoBulk]
theorem bulk_len : ∀ l : List (DataW H), l.length ≤ Rows.uptoBulkAll l
 | [] => by simp [Rows.uptoBulkAll]
 | d :: l => by
  have h1 := bulk_pos d
  have h2 := bulk_len l
  simp only [Rows.uptoBulkAll, List.length_cons]
  omega
end
section
variable {H : Type} {enc : TypeId × Value → H} {w : World} {base : Nat} {spare : Nat → Bool} {held : Bool}
/-- Bytes within data. -/
theorem trod_bytes {fuel : Nat} {cs : List Value} {x : DataW H × List MemPlace} (h : DataW.trod enc Tryz.prog w base spare held fuel 38 cs = some x) : ∃ v s, cs = [v] ∧ Sl w 1 v s.length (u8s s) ∧ Room v ∧ s.length ≤ 9223372036854775807 := by
 have hc1 : Tryz.prog.cellsOf 5 = 1 := ty5.cellsOf
 rcases ChangeShapes.open_ints (k := .u8) Tryz.underlying38 Tryz.underlying5 hc1 h with ⟨hc, _⟩ | ⟨a, len, cap, zs, hc, _, hlc, hcm, hm, hx, hi, hwf⟩
 ·exact ⟨_, [], hc, Sl.nil _ _ _, Nat.le_refl 0, by simp⟩
 ·have hmx : maxLen = 9223372036854775807 := by decide
  by_cases h0 : len = 0
  ·subst h0
   exact ⟨_, [], hc, ⟨rfl, .inl ⟨_, _, rfl, rfl⟩⟩, Nat.zero_le _, by simp⟩
  have hle : len ≤ zs.length := by rw [hm]; split <;> omega
  have hspot : a.spot = none := cell_spot (a := a.add 0) (hi 0 (by omega))
  obtain ⟨b, off, sp⟩ := a
  simp only at hspot
  subst hspot
  have hval8 : ∀ n ∈ zs, ∃ c : UInt8, n = c.toNat := fun n hn => by
   have hw := hwf n hn
   simp only [Lit.wf, Bool.and_eq_true, decide_eq_true_eq] at hw
   have h0 : (IntKind.u8).min = 0 := by decide
   have h255 : (IntKind.u8).max = 255 := by decide
   rw [h0, h255] at hw
   refine ⟨UInt8.ofNat n.toNat, ?_⟩
   rw [UInt8.toNat_ofNat_of_lt' (show n.toNat < 256 by omega)]
   omega
  have hu : ((zs.take len).map fun n => Value.int .u8 n) = u8s ((zs.take len).map fun n => UInt8.ofNat n.toNat) := by
   unfold u8s
   rw [List.map_map]
   apply List.map_congr_left
   intro n hn
   have hobt := hval8 n (List.mem_of_mem_take hn)
   obtain ⟨c, rfl⟩ := hobt
   simp
  refine ⟨_, (zs.take len).map fun n => UInt8.ofNat n.toNat, hc, ?_, hlc, by simp; omega⟩
  have hl2 : ((zs.take len).map fun n => UInt8.ofNat n.toNat).length = len := by simp; omega
  rw [hl2]
  refine .mk (by simp [u8s]; omega) ?_
  rw [← hu]
  intro j v hj
  rw [List.getElem?_map] at hj
  cases hz : (zs.take len)[j]? with
  | none => rw [hz] at hj; cases hj
  | some n =>
   rw [hz] at hj
   obtain rfl : Value.int .u8 n = v := by simpa using hj
   have hjl : j < len := by
    have := (List.getElem?_eq_some_iff.1 hz).1
    simp at this
    omega
   have h2 := hi j (by omega)
   rw [add_off] at h2
   rw [h2]
   rw [List.getElem?_take, if_pos hjl] at hz
   simp [List.getD, hz]
theorem icells3 {cs : List Value} {p v : Value} {o : Bool} (hl : cs.length = 3) (h0 : (cs.drop 0).take 1 = [p]) (h1 : (cs.drop 1).take 1 = [.bool o]) (h2 : (cs.drop 2).take 1 = [v]) : cs = [p, .bool o, v] := by
 match cs, hl with
 | [a0, a1, a2], _ =>
  have e0 : a0 = p := by simpa using h0
  have e1 : a1 = .bool o := by simpa using h1
  have e2 : a2 = v := by simpa using h2
  rw [e0, e1, e2]
theorem icells5 {cs : List Value} {k h n p v : Value} (hl : cs.length = 5) (h0 : (cs.drop 0).take 1 = [k]) (h1 : (cs.drop 1).take 1 = [h]) (h2 : (cs.drop 2).take 1 = [n]) (h3 : (cs.drop 3).take 1 = [p]) (h4 : (cs.drop 4).take 1 = [v]) : cs = [k, h, n, p, v] := by
 match cs, hl with
 | [a0, a1, a2, a3, a4], _ =>
  have e0 : a0 = k := by simpa using h0
  have e1 : a1 = h := by simpa using h1
  have e2 : a2 = n := by simpa using h2
  have e3 : a3 = p := by simpa using h3
  have e4 : a4 = v := by simpa using h4
  rw [e0, e1, e2, e3, e4]
theorem lit_i64 {n : Int} (h : (Lit.int .i64 n).wf = true) : i64s n := by
 simp only [Lit.wf, Bool.and_eq_true, decide_eq_true_eq] at h
 have h0 : (IntKind.i64).min = -9223372036854775808 := by decide
 have h255 : (IntKind.i64).max = 9223372036854775807 := by decide
 rw [h0, h255] at h
 exact h
theorem trod_quo {fuel : Nat} {cs : List Value} {x : DataW H × List MemPlace} (h : DataW.trod enc Tryz.prog w base spare held fuel 24 cs = some x) : ∃ a b c : Int, i64s a ∧ i64s b ∧ i64s c ∧ cs = quoC a b c := by
 have hobt := DataW.trod_struct Tryz.underlying24 h
 obtain ⟨xs, m, _, _, hl, hlen, hf⟩ := hobt
 have hl3 : cs.length = 3 := hl.trans ty24.cellsOf
 match xs, hlen with
 | [y0, y1, y2], _ =>
  have f0 := hf 0 _ rfl
  have f1 := hf 1 _ rfl
  have f2 := hf 2 _ rfl
  have hobt := DataW.trod_int Tryz.underlying3 (f0.trans rfl)
  obtain ⟨a, ha, _, hwa⟩ := hobt
  have hobt := DataW.trod_int Tryz.underlying3 (f1.trans rfl)
  obtain ⟨b, hb, _, hwb⟩ := hobt
  have hobt := DataW.trod_int Tryz.underlying3 (f2.trans rfl)
  obtain ⟨c, hc, _, hwc⟩ := hobt
  replace ha : (cs.drop 0).take (Tryz.prog.cellsOf 3) = [.int .i64 a] := ha
  replace hb : (cs.drop 1).take (Tryz.prog.cellsOf 3) = [.int .i64 b] := hb
  replace hc : (cs.drop 2).take (Tryz.prog.cellsOf 3) = [.int .i64 c] := hc
  rw [ty3.cellsOf] at ha hb hc
  refine ⟨a, b, c, lit_i64 hwa, lit_i64 hwb, lit_i64 hwc, ?_⟩
  match cs, hl3 with
  | [a0, a1, a2], _ =>
   have e0 : a0 = .int .i64 a := by simpa using ha
   have e1 : a1 = .int .i64 b := by simpa using hb
   have e2 : a2 = .int .i64 c := by simpa using hc
   rw [e0, e1, e2]
   rfl
/-- An argument of a quota, opened. -/
theorem open_quo {v : Value} {d : DataW H} {ps : List MemPlace} {r : Reach} {b0 : Nat} (hval : Value.okWide Tryz.prog w r b0 24 v) (h : DataW.Trod enc Tryz.prog w 0 spare held 24 v d ps) : ∃ a b c : Int, v = .agg (quoC a b c).toArray ∧ i64s a ∧ i64s b ∧ i64s c := by
 obtain ⟨fuel, h⟩ := h
 have hobt := trod_quo h
 obtain ⟨a, b, c, ha, hb, hc, hx⟩ := hobt
 refine ⟨a, b, c, ?_, ha, hb, hc⟩
 cases v with
 | agg cs =>
  have : cs.toList = quoC a b c := hx
  rw [← this]
 | _ => exfalso; simp [Value.okWide, Cell.okWide] at hval
end
end Go.Gx
