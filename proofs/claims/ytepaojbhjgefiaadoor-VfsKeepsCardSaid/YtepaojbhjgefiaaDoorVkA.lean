/- Arguments of VfsKeeps: numbers, and cells (a handle, bytes, a cut), opened. -/
import Derived.Test.YtepaojbhjgefiaaDoorTied
namespace Go.Gx
open Go.Proofs Go.ChangeShapes Go.WideShapes Go.ChangeAt Go.RowKit Go.Deep
open Go.Proofs.YtepaojbhjgefiaaDoor (Rows.uptoBulk Rows.uptoBulkAll)
set_option linter.unusedVariables false
set_option linter.unusedSimpArgs false
set_option maxRecDepth 100000
def nums (l : List Int) : List Value := l.map fun z => .int .i64 z
/-- Numbers as a value. -/
structure Nums (w : World) (v : Value) (l : List Int) : Prop where
  sl : Sl w 1 v l.length (nums l)
  rng : ∀ z ∈ l, -9223372036854775808 ≤ z ∧ z ≤ 9223372036854775807
  len : l.length ≤ 9223372036854775807
structure Cel where
  h : Int
  vb : Value
  b : List UInt8
  cut : Bool
def Cel.cells (x : Cel) : List Value := [.int .i64 x.h, x.vb, .bool x.cut]
structure Cel.Ok (w : World) (x : Cel) : Prop where
  k1 : -9223372036854775808 ≤ x.h
  k2 : x.h ≤ 9223372036854775807
  hb : Sl w 1 x.vb x.b.length (u8s x.b)
  rb : Room x.vb
  lb : x.b.length ≤ 9223372036854775807
def cels (l : List Cel) : List Value := l.flatMap Cel.cells
/-- Cells as a value. -/
structure Cels (w : World) (v : Value) (l : List Cel) : Prop where
  sl : Sl w 3 v l.length (cels l)
  ok : ∀ x ∈ l, x.Ok w
  len : l.length ≤ 9223372036854775807
theorem cels_len : ∀ l : List Cel, (cels l).length = l.length * 3
  | [] => rfl
  | x :: l => by
    have h2 := cels_len l
    rw [cels] at h2
    rw [cels, List.flatMap_cons, List.length_append, h2, List.length_cons]
    show 3 + l.length * 3 = _
    omega
theorem cels_at : ∀ {l : List Cel} (i j : Nat) (h : i < l.length), j < 3 → (cels l)[i * 3 + j]? = (l[i].cells)[j]?
  | x :: l, 0, j, _, hj => by
    rw [cels, List.flatMap_cons, Nat.zero_mul, Nat.zero_add, List.getElem?_append_left (by show j < 3; exact hj)]
    rfl
  | x :: l, i + 1, j, h, hj => by
    have h3 : x.cells.length = 3 := rfl
    rw [cels, List.flatMap_cons, List.getElem?_append_right (by rw [h3]; omega), h3, show (i + 1) * 3 + j - 3 = i * 3 + j by omega]
    have h2 := cels_at (l := l) i j (by simpa using h) hj
    simpa [cels] using h2
theorem Cels.at {w : World} {v : Value} {l : List Cel} (h : Cels w v l) {i : Nat} {x : Cel} (hx : l[i]? = some x) : ∃ b off c, v = .slice (some ⟨b, off, none⟩) l.length c ∧ At w b (off + i * 3) x.cells := by
  have hobt := List.getElem?_eq_some_iff.1 hx
  obtain ⟨hlt, rfl⟩ := hobt
  have hobt := h.sl
  obtain ⟨hl, ⟨a, c, hc, h1⟩ | ⟨b, off, c, hc, hat⟩⟩ := hobt
  · omega
  · refine ⟨b, off, c, hc, fun j v hj => ?_⟩
    have hj3 : j < 3 := (List.getElem?_eq_some_iff.1 hj).1
    have h1 := cels_at i j hlt hj3
    rw [Nat.add_assoc]
    exact hat _ _ (h1.trans hj)
theorem mapM_get {α β : Type} {f : α → Option β} : ∀ {l : List α} {r : List β}, l.mapM f = some r → r.length = l.length ∧ ∀ (i : Nat) (h : i < l.length), f l[i] = r[i]?
  | [], r, h => by
    simp at h
    subst h
    exact ⟨rfl, fun i h => by simp at h⟩
  | x :: l, r, h => by
    rw [List.mapM_cons] at h
    cases hx : f x with
    | none => rw [hx] at h; cases h
    | some y =>
      cases hl : l.mapM f with
      | none => rw [hx, hl] at h; cases h
      | some ys =>
        rw [hx, hl] at h
        obtain rfl : y :: ys = r := by simpa using h
        have hobt := mapM_get hl
        obtain ⟨h1, h2⟩ := hobt
        refine ⟨by simp [h1], fun i hi => ?_⟩
        cases i with
        | zero => simpa using hx
        | succ i => simpa using h2 i (by simpa using hi)
theorem At.cells {w : World} {base b off n : Nat} {cs : List Value} (h : w.cells? base ⟨b, off, none⟩ n = some cs) : cs.length = n ∧ At w b off cs := by
  unfold World.cells? at h
  split at h
  · have hobt := mapM_get h
    obtain ⟨h1, h2⟩ := hobt
    rw [List.length_range] at h1
    refine ⟨h1, fun j v hj => ?_⟩
    have hlt : j < n := by
      rw [← h1]
      exact (List.getElem?_eq_some_iff.1 hj).1
    have := h2 j (by simpa using hlt)
    rw [List.getElem_range, hj, add_off] at this
    exact this
  · cases h
theorem choose_any {α : Type} {p : Nat → α → Prop} : ∀ n : Nat, (∀ i, i < n → ∃ x, p i x) → ∃ l : List α, l.length = n ∧ ∀ (i : Nat) (h : i < l.length), p i l[i]
  | 0, _ => ⟨[], rfl, fun i h => by simp at h⟩
  | n + 1, h => by
    have hobt := choose_any n fun i hi => h i (by omega)
    obtain ⟨l, hl, hp⟩ := hobt
    have hobt := h n (by omega)
    obtain ⟨x, hx⟩ := hobt
    refine ⟨l ++ [x], by simp [hl], fun i hi => ?_⟩
    by_cases hin : i < l.length
    · rw [List.getElem_append_left hin]; exact hp i hin
    · have : i = l.length := by simp at hi; omega
      subst this
      simp [hl]
      rw [hl] at *
      exact hx
theorem cell_spot {w : World} {a : Addr} {v : Value} (h : w.cell? a = some v) : a.spot = none := by
  unfold World.cell? at h
  split at h
  · split at h
    · cases h
    · rename_i hs
      cases hsp : a.spot with
      | none => rfl
      | some s => rw [hsp] at hs; simp at hs
  · cases h
theorem cells_spot {w : World} {base n : Nat} {a : Addr} {cs : List Value} (h : w.cells? base a n = some cs) (hn : 0 < n) : a.spot = none := by
  unfold World.cells? at h
  split at h
  · have hobt := mapM_get h
    obtain ⟨h1, h2⟩ := hobt
    rw [List.length_range] at h1
    have h3 := h2 0 (by simpa using hn)
    rw [List.getElem_range, List.getElem?_eq_getElem (by omega)] at h3
    exact cell_spot (a := a.add 0) h3
  · cases h
section
variable {H : Type}
theorem bulk_pos : ∀ d : DataW H, 1 ≤ Rows.uptoBulk d
  | .lit x => by cases x <;> simp [Rows.uptoBulk]
  | .nil => by simp [Rows.uptoBulk]
  | .ptr d => by simp [Rows.uptoBulk]
  | .slice a b => by simp [Rows.uptoBulk]
  | .agg a => by simp [Rows.uptoBulk]
  | .iface _ d => by simp [Rows.uptoBulk]
  | .map a => by simp [Rows.uptoBulk]
  | .held _ => by simp [Rows.uptoBulk]
theorem bulk_len : ∀ l : List (DataW H), l.length ≤ Rows.uptoBulkAll l
  | [] => by simp [Rows.uptoBulkAll]
  | d :: l => by
    have h1 := bulk_pos d
    have h2 := bulk_len l
    simp only [Rows.uptoBulkAll, List.length_cons]
    omega
end
section
variable {H : Type} {enc : TypeId × Value → H} {w : World} {base : Nat} {spare : Nat → Bool} {held : Bool}
theorem open_nums {v : Value} {d : DataW H} {ps : List MemPlace} {r : Reach} {b0 : Nat} (hval : Value.okWide Tryd.prog w r b0 22 v) (h : DataW.Trod enc Tryd.prog w 0 spare held 22 v d ps) : ∃ l : List Int, Nums w v l ∧ Room v ∧ (Rows.uptoBulk d ≤ 1048576 → l.length ≤ 1048576) := by
  obtain ⟨fuel, h⟩ := h
  have hobt := okWide_slice Tryd.underlying22 hval
  obtain ⟨a0, len, cap, rfl⟩ := hobt
  have hc1 : Tryd.prog.cellsOf 3 = 1 := ty3.cellsOf
  rcases ChangeShapes.open_ints (k := .i64) Tryd.underlying22 Tryd.underlying3 hc1 h with ⟨hc, _⟩ | ⟨a, len', cap', zs, hc, _, hlc, hcm, hm, hx, hi, hwf⟩
  · have : Value.slice a0 len cap = .slice none 0 0 := by simpa [Value.cells] using hc
    cases this
    exact ⟨[], ⟨Sl.nil _ _ _, fun z hz => (by cases hz), by simp⟩, Nat.le_refl 0, fun _ => by simp⟩
  · have : Value.slice a0 len cap = .slice (some a) len' cap' := by simpa [Value.cells] using hc
    cases this
    have hspot : a.spot = none := by
      simp only [Value.okWide, Tryd.underlying22, Cell.okWide, Cell.ok] at hval
      exact hval.2.2.2.1
    obtain ⟨b, off, sp⟩ := a
    simp only at hspot
    subst hspot
    have hle : len ≤ zs.length := by rw [hm]; split <;> omega
    have hd : d = _ := congrArg Prod.fst hx
    have hmx : maxLen = 9223372036854775807 := by decide
    have hlen := bulk_len (H := H) (lits .i64 (zs.take len))
    have hll : (lits (H := H) .i64 (zs.take len)).length = len := by simp [lits]; omega
    have hl2 : (zs.take len).length = len := by simp; omega
    refine ⟨zs.take len, ⟨?_, fun z hz => ?_, by omega⟩, hlc, fun hb => by rw [hd] at hb; simp only [Rows.uptoBulk] at hb; omega⟩
    · rw [hl2]
      refine .mk (by simp [nums]; omega) ?_
      intro j v hj
      rw [nums, List.getElem?_map] at hj
      cases hz : (zs.take len)[j]? with
      | none => rw [hz] at hj; cases hj
      | some n =>
        rw [hz] at hj
        obtain rfl : Value.int .i64 n = v := by simpa using hj
        have hjl : j < len := by
          have := (List.getElem?_eq_some_iff.1 hz).1
          omega
        have h2 := hi j (by omega)
        rw [add_off] at h2
        rw [h2]
        rw [List.getElem?_take, if_pos hjl] at hz
        simp [List.getD, hz]
    · have hw := hwf z (List.mem_of_mem_take hz)
      simp only [Lit.wf, Bool.and_eq_true, decide_eq_true_eq] at hw
      have h0 : (IntKind.i64).min = -9223372036854775808 := by decide
      have h255 : (IntKind.i64).max = 9223372036854775807 := by decide
      rw [h0, h255] at hw
      exact hw
theorem Nums.at {v : Value} {l : List Int} (h : Nums w v l) {i : Nat} (hi : i < l.length) : ∃ b off c, v = .slice (some ⟨b, off, none⟩) l.length c ∧ At w b (off + i * 1) [.int .i64 l[i]] := by
  have hobt := h.sl
  obtain ⟨hl, ⟨a, c, hc, h1⟩ | ⟨b, off, c, hc, hat⟩⟩ := hobt
  · omega
  · refine ⟨b, off, c, hc, ?_⟩
    have h2 := (hat.drop i).take 1
    rw [nums, ← List.map_drop, List.drop_eq_getElem_cons hi] at h2
    rw [Nat.mul_one]
    exact h2
/-- Bytes within data. -/
theorem trod_bytes {fuel : Nat} {cs : List Value} {x : DataW H × List MemPlace} (h : DataW.trod enc Tryd.prog w base spare held fuel 34 cs = some x) : ∃ v s, cs = [v] ∧ Sl w 1 v s.length (u8s s) ∧ Room v ∧ s.length ≤ 9223372036854775807 := by
  have hc1 : Tryd.prog.cellsOf 5 = 1 := ty5.cellsOf
  rcases ChangeShapes.open_ints (k := .u8) Tryd.underlying34 Tryd.underlying5 hc1 h with ⟨hc, _⟩ | ⟨a, len, cap, zs, hc, _, hlc, hcm, hm, hx, hi, hwf⟩
  · exact ⟨_, [], hc, Sl.nil _ _ _, Nat.le_refl 0, by simp⟩
  · have hmx : maxLen = 9223372036854775807 := by decide
    by_cases h0 : len = 0
    · subst h0
      exact ⟨_, [], hc, ⟨rfl, .inl ⟨_, _, rfl, rfl⟩⟩, Nat.zero_le _, by simp⟩
    have hle : len ≤ zs.length := by rw [hm]; split <;> omega
    have hspot : a.spot = none := cell_spot (a := a.add 0) (hi 0 (by omega))
    obtain ⟨b, off, sp⟩ := a
    simp only at hspot
    subst hspot
    have hval8 : ∀ n ∈ zs, ∃ c : UInt8, n = c.toNat := fun n hn => by
      have hw := hwf n hn
      simp only [Lit.wf, Bool.and_eq_true, decide_eq_true_eq] at hw
      have h0 : (IntKind.u8).min = 0 := by decide
      have h255 : (IntKind.u8).max = 255 := by decide
      rw [h0, h255] at hw
      refine ⟨UInt8.ofNat n.toNat, ?_⟩
      rw [UInt8.toNat_ofNat_of_lt' (show n.toNat < 256 by omega)]
      omega
    have hu : ((zs.take len).map fun n => Value.int .u8 n) = u8s ((zs.take len).map fun n => UInt8.ofNat n.toNat) := by
      unfold u8s
      rw [List.map_map]
      apply List.map_congr_left
      intro n hn
      have hobt := hval8 n (List.mem_of_mem_take hn)
      obtain ⟨c, rfl⟩ := hobt
      simp
    refine ⟨_, (zs.take len).map fun n => UInt8.ofNat n.toNat, hc, ?_, hlc, by simp; omega⟩
    have hl2 : ((zs.take len).map fun n => UInt8.ofNat n.toNat).length = len := by simp; omega
    rw [hl2]
    refine .mk (by simp [u8s]; omega) ?_
    rw [← hu]
    intro j v hj
    rw [List.getElem?_map] at hj
    cases hz : (zs.take len)[j]? with
    | none => rw [hz] at hj; cases hj
    | some n =>
      rw [hz] at hj
      obtain rfl : Value.int .u8 n = v := by simpa using hj
      have hjl : j < len := by
        have := (List.getElem?_eq_some_iff.1 hz).1
        simp at this
        omega
      have h2 := hi j (by omega)
      rw [add_off] at h2
      rw [h2]
      rw [List.getElem?_take, if_pos hjl] at hz
      simp [List.getD, hz]
theorem cells3 {cs : List Value} {k : Int} {vb : Value} {o : Bool} (hl : cs.length = 3) (h0 : (cs.drop 0).take 1 = [.int .i64 k]) (h1 : (cs.drop 1).take 1 = [vb]) (h2 : (cs.drop 2).take 1 = [.bool o]) : cs = [.int .i64 k, vb, .bool o] := by
  match cs, hl with
  | [a0, a1, a2], _ =>
    have e0 : a0 = .int .i64 k := by simpa using h0
    have e1 : a1 = vb := by simpa using h1
    have e2 : a2 = .bool o := by simpa using h2
    rw [e0, e1, e2]
theorem trod_cel {fuel : Nat} {cs : List Value} {x : DataW H × List MemPlace} (h : DataW.trod enc Tryd.prog w base spare held fuel 36 cs = some x) : ∃ y : Cel, y.Ok w ∧ cs = y.cells := by
  have hobt := DataW.trod_struct Tryd.underlying36 h
  obtain ⟨xs, m, _, _, hl, hlen, hf⟩ := hobt
  have hl3 : cs.length = 3 := hl.trans ty36.cellsOf
  match xs, hlen with
  | [y0, y1, y2], _ =>
    have f0 := hf 0 _ rfl
    have f1 := hf 1 _ rfl
    have f2 := hf 2 _ rfl
    have hobt := DataW.trod_int Tryd.underlying3 (f0.trans rfl)
    obtain ⟨k, hk, _, hwk⟩ := hobt
    have hobt := trod_bytes (f1.trans rfl)
    obtain ⟨vb, b, hb, hbs, hbr, hbl⟩ := hobt
    have hobt := DataW.trod_bool Tryd.underlying4 (f2.trans rfl)
    obtain ⟨o, ho, _⟩ := hobt
    replace hk : (cs.drop 0).take (Tryd.prog.cellsOf 3) = [.int .i64 k] := hk
    replace hb : (cs.drop 1).take (Tryd.prog.cellsOf 34) = [vb] := hb
    replace ho : (cs.drop 2).take (Tryd.prog.cellsOf 4) = [.bool o] := ho
    rw [ty3.cellsOf] at hk
    rw [ty34.cellsOf] at hb
    rw [ty4.cellsOf] at ho
    simp only [Lit.wf, Bool.and_eq_true, decide_eq_true_eq] at hwk
    have h0 : (IntKind.i64).min = -9223372036854775808 := by decide
    have h255 : (IntKind.i64).max = 9223372036854775807 := by decide
    rw [h0, h255] at hwk
    exact ⟨⟨k, vb, b, o⟩, ⟨hwk.1, hwk.2, hbs, hbr, hbl⟩, cells3 hl3 hk hb ho⟩
/-- An argument of cells, opened. -/
theorem open_cels {v : Value} {d : DataW H} {ps : List MemPlace} {r : Reach} {b0 : Nat} (hval : Value.okWide Tryd.prog w r b0 23 v) (h : DataW.Trod enc Tryd.prog w 0 spare held 23 v d ps) : ∃ l, Cels w v l ∧ Room v ∧ (Rows.uptoBulk d ≤ 1048576 → l.length ≤ 1048576) := by
  obtain ⟨fuel, h⟩ := h
  have hobt := okWide_slice Tryd.underlying23 hval
  obtain ⟨a0, len, cap, rfl⟩ := hobt
  rcases open_slice Tryd.underlying23 h with ⟨hc, _⟩ | ⟨a, len', cap', m, n, D, Pl, hc, _, hlc, hcm, hm, hx, hi⟩
  · have : Value.slice a0 len cap = .slice none 0 0 := by simpa [Value.cells] using hc
    cases this
    exact ⟨[], ⟨Sl.nil _ _ _, fun x hx => (by cases hx), by simp⟩, Nat.le_refl 0, fun _ => by simp⟩
  · have : Value.slice a0 len cap = .slice (some a) len' cap' := by simpa [Value.cells] using hc
    cases this
    have hmx : maxLen = 9223372036854775807 := by decide
    have hle : len ≤ m := by rw [hm]; split <;> omega
    have hd : d = (.slice ((List.range len).map D) ((List.range (m - len)).map fun j => D (len + j))) := congrArg Prod.fst hx
    subst hd
    have hlen := bulk_len ((List.range len).map D)
    simp only [List.length_map, List.length_range] at hlen
    have c48 : Tryd.prog.cellsOf 36 = 3 := ty36.cellsOf
    by_cases h0 : len = 0
    · subst h0
      exact ⟨[], ⟨⟨rfl, .inl ⟨_, _, rfl, rfl⟩⟩, fun x hx => (by cases hx), by simp⟩, hlc, fun _ => by simp⟩
    have hspot : a.spot = none := by
      have hobt := hi 0 (by omega)
      obtain ⟨cs', h1, _⟩ := hobt
      rw [c48] at h1
      exact cells_spot (a := a.add (0 * 3)) h1 (by decide)
    obtain ⟨b, off, sp⟩ := a
    simp only at hspot
    subst hspot
    obtain ⟨l, hl, hp⟩ := choose_any (p := fun i x => Cel.Ok w x ∧ At w b (off + i * 3) x.cells) len fun i hi' => by
      have hobt := hi i (by omega)
      obtain ⟨cs', h1, h2⟩ := hobt
      rw [c48, add_off] at h1
      have hobt := trod_cel h2
      obtain ⟨x, hxo, hxc⟩ := hobt
      exact ⟨x, hxo, hxc ▸ (At.cells h1).2⟩
    have hok : ∀ x ∈ l, x.Ok w := fun x hx => by
      have hobt := List.mem_iff_getElem.1 hx
      obtain ⟨i, hi', rfl⟩ := hobt
      exact (hp i hi').1
    refine ⟨l, ⟨?_, hok, by omega⟩, hlc, fun hb => by simp only [Rows.uptoBulk] at hb; omega⟩
    rw [hl]
    refine .mk (by rw [cels_len, hl]) ?_
    intro j v hj
    have hjl := (List.getElem?_eq_some_iff.1 hj).1
    rw [cels_len] at hjl
    have hq : j / 3 < l.length := by omega
    have h1 := cels_at (j / 3) (j % 3) hq (by omega)
    rw [show j / 3 * 3 + j % 3 = j by omega, hj] at h1
    have h2 := (hp _ hq).2 _ _ h1.symm
    rwa [show off + j / 3 * 3 + j % 3 = off + j by omega] at h2
end
end Go.Gx
