/- A script: an argument of steps, opened. reckoned: walked. alike: walked. A law's World: made. A law's World: the step's digest. A law's World: bytes lent and taken back. A law's World stands for one plain Store; put. A law's World: put, walked. A law's World: asked, walked. A law's World: a step, walked. CasPlays, walked. -/
import Derived.Test.YtakhjiecinpmiaaM6
/-! Script -/
namespace Go.Gx
open Go.Proofs Go.ChangeShapes Go.WideShapes Go.ChangeAt Go.RowKit Go.Deep
open Go.Proofs.Ytakhjiecinpmiaa (Rows.uptoBulk Rows.uptoBulkAll)
set_option linter.unusedVariables false
set_option linter.unusedSimpArgs false
set_option maxRecDepth 100000
/-- A step: its two slices of bytes as values, and what they hold. -/
structure Stp where
  kind : Int
  vb : Value
  b : List UInt8
  vc : Value
  c : List UInt8
  d : List UInt8
  own : Bool
  n : Int
def Stp.cells (x : Stp) : List Value := .int .i64 x.kind :: x.vb :: x.vc :: (u8s x.d ++ [.bool x.own, .int .i64 x.n])
structure Stp.Ok (w : World) (x : Stp) : Prop where
  k1 : -9223372036854775808 ≤ x.kind
  k2 : x.kind ≤ 9223372036854775807
  hb : Sl w 1 x.vb x.b.length (u8s x.b)
  rb : Room x.vb
  lb : x.b.length ≤ 9223372036854775807
  hc : Sl w 1 x.vc x.c.length (u8s x.c)
  rc : Room x.vc
  lc : x.c.length ≤ 9223372036854775807
  hd : x.d.length = 32
  n1 : -9223372036854775808 ≤ x.n
  n2 : x.n ≤ 9223372036854775807
theorem Stp.cells_len {w : World} {x : Stp} (h : x.Ok w) : x.cells.length = 37 := by simp [Stp.cells, u8s, h.hd]
theorem Sl.c1 {w : World} {sz n : Nat} {v : Value} {cs : List Value} (h : Sl w sz v n cs) : v.oneCell' = true := by
  have hobt := h.form
  obtain ⟨a, c, rfl⟩ := hobt
  rfl
theorem Stp.cells1 {w : World} {x : Stp} (h : x.Ok w) : Cells1 x.cells := by
  intro v hv
  simp only [Stp.cells, List.mem_cons, List.mem_append, List.not_mem_nil, or_false] at hv
  rcases hv with rfl | rfl | rfl | hv | rfl | rfl
  · rfl
  · exact h.hb.c1
  · exact h.hc.c1
  · exact Cells1.u8s _ v hv
  · rfl
  · rfl
theorem Stp.get35 {w : World} {x : Stp} (h : x.Ok w) : x.cells[35]? = some (.bool x.own) := by
  show (u8s x.d ++ [.bool x.own, .int .i64 x.n])[32]? = _
  have hl : (u8s x.d).length = 32 := by rw [u8s, List.length_map, h.hd]
  rw [List.getElem?_append_right (by rw [hl]; exact Nat.le_refl _), hl]
  rfl
theorem Stp.get36 {w : World} {x : Stp} (h : x.Ok w) : x.cells[36]? = some (.int .i64 x.n) := by
  show (u8s x.d ++ [.bool x.own, .int .i64 x.n])[33]? = _
  have hl : (u8s x.d).length = 32 := by rw [u8s, List.length_map, h.hd]
  rw [List.getElem?_append_right (by rw [hl]; decide), hl]
  rfl
theorem Stp.atD {w1 w : World} {x : Stp} (hx : x.Ok w1) {b off : Nat} (h : At w b off x.cells) : At w b (off + 3) (u8s x.d) := fun j v hj => by
  have hjl := (List.getElem?_eq_some_iff.1 hj).1
  have h1 : x.cells[3 + j]? = some v := by
    show (Value.int .i64 x.kind :: x.vb :: x.vc :: (u8s x.d ++ [.bool x.own, .int .i64 x.n]))[3 + j]? = _
    rw [show 3 + j = j + 1 + 1 + 1 by omega, List.getElem?_cons_succ, List.getElem?_cons_succ, List.getElem?_cons_succ, List.getElem?_append_left hjl]
    exact hj
  have := h _ _ h1
  rwa [← Nat.add_assoc] at this
def stps (l : List Stp) : List Value := l.flatMap Stp.cells
/-- A script as a value. -/
structure Stps (w : World) (v : Value) (l : List Stp) : Prop where
  sl : Sl w 37 v l.length (stps l)
  ok : ∀ x ∈ l, x.Ok w
  len : l.length ≤ 9223372036854775807
theorem stps_len {w : World} {l : List Stp} (h : ∀ x ∈ l, x.Ok w) : (stps l).length = l.length * 37 := by
  induction l with
  | nil => rfl
  | cons x l ih =>
    have h1 := Stp.cells_len (h x (by simp))
    have h2 := ih fun y hy => h y (by simp [hy])
    rw [stps] at h2
    rw [stps, List.flatMap_cons, List.length_append, h1, h2, List.length_cons]
    omega
theorem stps_at {w : World} : ∀ {l : List Stp} (_ : ∀ x ∈ l, x.Ok w) (i j : Nat) (h : i < l.length), j < 37 → (stps l)[i * 37 + j]? = (l[i].cells)[j]?
  | x :: l, ho, 0, j, _, hj => by
    rw [stps, List.flatMap_cons, Nat.zero_mul, Nat.zero_add, List.getElem?_append_left (by rw [Stp.cells_len (ho x (by simp))]; exact hj)]
    rfl
  | x :: l, ho, i + 1, j, h, hj => by
    rw [stps, List.flatMap_cons, List.getElem?_append_right (by rw [Stp.cells_len (ho x (by simp))]; omega), Stp.cells_len (ho x (by simp)), show (i + 1) * 37 + j - 37 = i * 37 + j by omega]
    have h2 := stps_at (l := l) (fun y hy => ho y (by simp [hy])) i j (by simpa using h) hj
    simpa [stps] using h2
theorem Stps.at {w : World} {v : Value} {l : List Stp} (h : Stps w v l) {i : Nat} {x : Stp} (hx : l[i]? = some x) : ∃ b off c, v = .slice (some ⟨b, off, none⟩) l.length c ∧ At w b (off + i * 37) x.cells := by
  have hobt := List.getElem?_eq_some_iff.1 hx
  obtain ⟨hlt, rfl⟩ := hobt
  have hobt := h.sl
  obtain ⟨hl, ⟨a, c, hc, h1⟩ | ⟨b, off, c, hc, hat⟩⟩ := hobt
  · omega
  · refine ⟨b, off, c, hc, fun j v hj => ?_⟩
    have hj37 : j < 37 := by
      have := (List.getElem?_eq_some_iff.1 hj).1
      rwa [Stp.cells_len (h.ok _ (List.getElem_mem hlt))] at this
    have h1 := stps_at h.ok i j hlt hj37
    rw [Nat.add_assoc]
    exact hat _ _ (h1.trans hj)
theorem choose_any {α : Type} {p : Nat → α → Prop} : ∀ n : Nat, (∀ i, i < n → ∃ x, p i x) → ∃ l : List α, l.length = n ∧ ∀ (i : Nat) (h : i < l.length), p i l[i]
  | 0, _ => ⟨[], rfl, fun i h => by simp at h⟩
  | n + 1, h => by
    have hobt := choose_any n fun i hi => h i (by omega)
    obtain ⟨l, hl, hp⟩ := hobt
    have hobt := h n (by omega)
    obtain ⟨x, hx⟩ := hobt
    refine ⟨l ++ [x], by simp [hl], fun i hi => ?_⟩
    by_cases hin : i < l.length
    · rw [List.getElem_append_left hin]; exact hp i hin
    · have : i = l.length := by simp at hi; omega
      subst this
      simp [hl]
      rw [hl] at *
      exact hx
theorem cell_spot {w : World} {a : Addr} {v : Value} (h : w.cell? a = some v) : a.spot = none := by
  unfold World.cell? at h
  split at h
  · split at h
    · cases h
    · rename_i hs
      cases hsp : a.spot with
      | none => rfl
      | some s => rw [hsp] at hs; simp at hs
  · cases h
theorem cells_spot {w : World} {base n : Nat} {a : Addr} {cs : List Value} (h : w.cells? base a n = some cs) (hn : 0 < n) : a.spot = none := by
  unfold World.cells? at h
  split at h
  · have hobt := mapM_get h
    obtain ⟨h1, h2⟩ := hobt
    rw [List.length_range] at h1
    have h3 := h2 0 (by simpa using hn)
    rw [List.getElem_range, List.getElem?_eq_getElem (by omega)] at h3
    exact cell_spot (a := a.add 0) h3
  · cases h
section
variable {H : Type} {enc : TypeId × Value → H} {w : World} {base : Nat} {spare : Nat → Bool} {held : Bool}
/-- 32 bytes read as an array. -/
theorem trod_dig {fuel : Nat} {cs : List Value} {x : DataW H × List MemPlace} (h : DataW.trod enc Try.prog w base spare held fuel 27 cs = some x) : ∃ d : List UInt8, d.length = 32 ∧ cs = u8s d := by
  have hobt := DataW.trod_array Try.underlying27 h
  obtain ⟨xs, m, rfl, _, hl, hxl, hi⟩ := hobt
  have hl32 : cs.length = 32 := hl.trans ty27.cellsOf
  have each : ∀ (i : Nat) (h : i < cs.length), ∃ c : UInt8, cs[i] = .int .u8 c.toNat := fun i hlt => by
    have h1 := hi i (by omega)
    rw [List.getElem?_eq_getElem (by omega)] at h1
    have hc : Try.prog.cellsOf 5 = 1 := ty5.cellsOf
    rw [hc, Nat.mul_one] at h1
    have hobt := DataW.trod_int Try.underlying5 h1
    obtain ⟨n, hn, _, hw⟩ := hobt
    simp only [Lit.wf, Bool.and_eq_true, decide_eq_true_eq] at hw
    have h0 : (IntKind.u8).min = 0 := by decide
    have h255 : (IntKind.u8).max = 255 := by decide
    rw [h0, h255] at hw
    refine ⟨UInt8.ofNat n.toNat, ?_⟩
    have : cs[i] = .int .u8 n := by
      rw [List.drop_eq_getElem_cons hlt] at hn
      exact (List.cons.inj hn).1
    rw [this, UInt8.toNat_ofNat_of_lt' (show n.toNat < 256 by omega)]
    congr 1
    omega
  refine ⟨(List.range 32).map fun i => if h : i < cs.length then Classical.choose (each i h) else 0, by simp, ?_⟩
  apply List.ext_getElem
  · simp [u8s, hl32]
  · intro i h1 h2
    have := Classical.choose_spec (each i h1)
    simp [u8s, h1]
    exact this
/-- Bytes within data. -/
theorem trod_bytes {fuel : Nat} {cs : List Value} {x : DataW H × List MemPlace} (h : DataW.trod enc Try.prog w base spare held fuel 22 cs = some x) : ∃ v s, cs = [v] ∧ Sl w 1 v s.length (u8s s) ∧ Room v ∧ s.length ≤ 9223372036854775807 := by
  have hc1 : Try.prog.cellsOf 5 = 1 := ty5.cellsOf
  rcases ChangeShapes.open_ints (k := .u8) Try.underlying22 Try.underlying5 hc1 h with ⟨hc, _⟩ | ⟨a, len, cap, zs, hc, _, hlc, hcm, hm, hx, hi, hwf⟩
  · exact ⟨_, [], hc, Sl.nil _ _ _, Nat.le_refl 0, by simp⟩
  · have hmx : maxLen = 9223372036854775807 := by decide
    by_cases h0 : len = 0
    · subst h0
      exact ⟨_, [], hc, ⟨rfl, .inl ⟨_, _, rfl, rfl⟩⟩, Nat.zero_le _, by simp⟩
    have hle : len ≤ zs.length := by rw [hm]; split <;> omega
    have hspot : a.spot = none := cell_spot (a := a.add 0) (hi 0 (by omega))
    obtain ⟨b, off, sp⟩ := a
    simp only at hspot
    subst hspot
    have hval8 : ∀ n ∈ zs, ∃ c : UInt8, n = c.toNat := fun n hn => by
      have hw := hwf n hn
      simp only [Lit.wf, Bool.and_eq_true, decide_eq_true_eq] at hw
      have h0 : (IntKind.u8).min = 0 := by decide
      have h255 : (IntKind.u8).max = 255 := by decide
      rw [h0, h255] at hw
      refine ⟨UInt8.ofNat n.toNat, ?_⟩
      rw [UInt8.toNat_ofNat_of_lt' (show n.toNat < 256 by omega)]
      omega
    have hu : ((zs.take len).map fun n => Value.int .u8 n) = u8s ((zs.take len).map fun n => UInt8.ofNat n.toNat) := by
      unfold u8s
      rw [List.map_map]
      apply List.map_congr_left
      intro n hn
      have hobt := hval8 n (List.mem_of_mem_take hn)
      obtain ⟨c, rfl⟩ := hobt
      simp
    refine ⟨_, (zs.take len).map fun n => UInt8.ofNat n.toNat, hc, ?_, hlc, by simp; omega⟩
    have hl2 : ((zs.take len).map fun n => UInt8.ofNat n.toNat).length = len := by simp; omega
    rw [hl2]
    refine .mk (by simp [u8s]; omega) ?_
    rw [← hu]
    intro j v hj
    rw [List.getElem?_map] at hj
    cases hz : (zs.take len)[j]? with
    | none => rw [hz] at hj; cases hj
    | some n =>
      rw [hz] at hj
      obtain rfl : Value.int .u8 n = v := by simpa using hj
      have hjl : j < len := by
        have := (List.getElem?_eq_some_iff.1 hz).1
        simp at this
        omega
      have h2 := hi j (by omega)
      rw [add_off] at h2
      rw [h2]
      rw [List.getElem?_take, if_pos hjl] at hz
      simp [List.getD, hz]
theorem cells37 {cs : List Value} {k : Int} {vb vc : Value} {d : List UInt8} {o : Bool} {n : Int} (hl : cs.length = 37) (h0 : (cs.drop 0).take 1 = [.int .i64 k]) (h1 : (cs.drop 1).take 1 = [vb]) (h2 : (cs.drop 2).take 1 = [vc]) (h3 : (cs.drop 3).take 32 = u8s d) (h4 : (cs.drop 35).take 1 = [.bool o]) (h5 : (cs.drop 36).take 1 = [.int .i64 n]) :
    cs = .int .i64 k :: vb :: vc :: (u8s d ++ [.bool o, .int .i64 n]) := by
  match cs, hl with
  | a0 :: a1 :: a2 :: r, hl =>
    have hr : r.length = 34 := by simpa using hl
    have e0 : a0 = .int .i64 k := by simpa using h0
    have e1 : a1 = vb := by simpa using h1
    have e2 : a2 = vc := by simpa using h2
    have e3 : r.take 32 = u8s d := by simpa using h3
    have e4 : (r.drop 32).take 1 = [.bool o] := by simpa using h4
    have e5 : (r.drop 33).take 1 = [.int .i64 n] := by simpa using h5
    have e6 : r.drop 32 = (r.drop 32).take 1 ++ (r.drop 33).take 1 := by
      have h6 : (r.drop 33).take 1 = r.drop 33 := List.take_of_length_le (by simp; omega)
      rw [h6]
      have h7 := List.take_append_drop 1 (r.drop 32)
      rw [List.drop_drop] at h7
      exact h7.symm
    rw [e0, e1, e2]
    congr 3
    have h8 := List.take_append_drop 32 r
    rw [e3, e6, e4, e5] at h8
    exact h8.symm
theorem trod_stp {fuel : Nat} {cs : List Value} {x : DataW H × List MemPlace} (h : DataW.trod enc Try.prog w base spare held fuel 48 cs = some x) : ∃ y : Stp, y.Ok w ∧ cs = y.cells := by
  have hobt := DataW.trod_struct Try.underlying48 h
  obtain ⟨xs, m, _, _, hl, hlen, hf⟩ := hobt
  have hl37 : cs.length = 37 := hl.trans ty48.cellsOf
  match xs, hlen with
  | [y0, y1, y2, y3, y4, y5], _ =>
    have f0 := hf 0 _ rfl
    have f1 := hf 1 _ rfl
    have f2 := hf 2 _ rfl
    have f3 := hf 3 _ rfl
    have f4 := hf 4 _ rfl
    have f5 := hf 5 _ rfl
    have hobt := DataW.trod_int Try.underlying3 (f0.trans rfl)
    obtain ⟨k, hk, _, hwk⟩ := hobt
    have hobt := trod_bytes (f1.trans rfl)
    obtain ⟨vb, b, hb, hbs, hbr, hbl⟩ := hobt
    have hobt := trod_bytes (f2.trans rfl)
    obtain ⟨vc, c, hc, hcs, hcr, hcl⟩ := hobt
    have hobt := trod_dig (f3.trans rfl)
    obtain ⟨d, hd, hdd⟩ := hobt
    have hobt := DataW.trod_bool Try.underlying4 (f4.trans rfl)
    obtain ⟨o, ho, _⟩ := hobt
    have hobt := DataW.trod_int Try.underlying3 (f5.trans rfl)
    obtain ⟨n, hn, _, hwn⟩ := hobt
    replace hk : (cs.drop 0).take (Try.prog.cellsOf 3) = [.int .i64 k] := hk
    replace hb : (cs.drop 1).take (Try.prog.cellsOf 22) = [vb] := hb
    replace hc : (cs.drop 2).take (Try.prog.cellsOf 22) = [vc] := hc
    replace hdd : (cs.drop 3).take (Try.prog.cellsOf 27) = u8s d := hdd
    replace ho : (cs.drop 35).take (Try.prog.cellsOf 4) = [.bool o] := ho
    replace hn : (cs.drop 36).take (Try.prog.cellsOf 3) = [.int .i64 n] := hn
    rw [ty3.cellsOf] at hk hn
    rw [ty22.cellsOf] at hb hc
    rw [ty27.cellsOf] at hdd
    rw [ty4.cellsOf] at ho
    simp only [Lit.wf, Bool.and_eq_true, decide_eq_true_eq] at hwk hwn
    have h0 : (IntKind.i64).min = -9223372036854775808 := by decide
    have h255 : (IntKind.i64).max = 9223372036854775807 := by decide
    rw [h0, h255] at hwk hwn
    exact ⟨⟨k, vb, b, vc, c, d, o, n⟩, ⟨hwk.1, hwk.2, hbs, hbr, hbl, hcs, hcr, hcl, hd, hwn.1, hwn.2⟩, cells37 hl37 hk hb hc hdd ho hn⟩
/-- An argument of steps, opened. -/
theorem open_steps {v : Value} {d : DataW H} {ps : List MemPlace} {r : Reach} {b0 : Nat} (hval : Value.okWide Try.prog w r b0 46 v) (h : DataW.Trod enc Try.prog w 0 spare held 46 v d ps) : ∃ l, Stps w v l ∧ Room v ∧ (Rows.uptoBulk d ≤ 1048576 → l.length ≤ 1048576) := by
  obtain ⟨fuel, h⟩ := h
  have hobt := okWide_slice Try.underlying46 hval
  obtain ⟨a0, len, cap, rfl⟩ := hobt
  rcases open_slice Try.underlying46 h with ⟨hc, _⟩ | ⟨a, len', cap', m, n, D, Pl, hc, _, hlc, hcm, hm, hx, hi⟩
  · have : Value.slice a0 len cap = .slice none 0 0 := by simpa [Value.cells] using hc
    cases this
    exact ⟨[], ⟨Sl.nil _ _ _, fun x hx => (by cases hx), by simp⟩, Nat.le_refl 0, fun _ => by simp⟩
  · have : Value.slice a0 len cap = .slice (some a) len' cap' := by simpa [Value.cells] using hc
    cases this
    have hmx : maxLen = 9223372036854775807 := by decide
    have hle : len ≤ m := by rw [hm]; split <;> omega
    have hd : d = (.slice ((List.range len).map D) ((List.range (m - len)).map fun j => D (len + j))) := congrArg Prod.fst hx
    subst hd
    have hlen := bulk_len ((List.range len).map D)
    simp only [List.length_map, List.length_range] at hlen
    have c48 : Try.prog.cellsOf 48 = 37 := ty48.cellsOf
    by_cases h0 : len = 0
    · subst h0
      exact ⟨[], ⟨⟨rfl, .inl ⟨_, _, rfl, rfl⟩⟩, fun x hx => (by cases hx), by simp⟩, hlc, fun _ => by simp⟩
    have hspot : a.spot = none := by
      have hobt := hi 0 (by omega)
      obtain ⟨cs', h1, _⟩ := hobt
      rw [c48] at h1
      exact cells_spot (a := a.add (0 * 37)) h1 (by decide)
    obtain ⟨b, off, sp⟩ := a
    simp only at hspot
    subst hspot
    obtain ⟨l, hl, hp⟩ := choose_any (p := fun i x => Stp.Ok w x ∧ At w b (off + i * 37) x.cells) len fun i hi' => by
      have hobt := hi i (by omega)
      obtain ⟨cs', h1, h2⟩ := hobt
      rw [c48, add_off] at h1
      have hobt := trod_stp h2
      obtain ⟨x, hxo, hxc⟩ := hobt
      exact ⟨x, hxo, hxc ▸ (At.cells h1).2⟩
    have hok : ∀ x ∈ l, x.Ok w := fun x hx => by
      have hobt := List.mem_iff_getElem.1 hx
      obtain ⟨i, hi', rfl⟩ := hobt
      exact (hp i hi').1
    refine ⟨l, ⟨?_, hok, by omega⟩, hlc, fun hb => by simp only [Rows.uptoBulk] at hb; omega⟩
    rw [hl]
    refine .mk (by rw [stps_len hok, hl]) ?_
    intro j v hj
    have hjl := (List.getElem?_eq_some_iff.1 hj).1
    rw [stps_len hok] at hjl
    have hq : j / 37 < l.length := by omega
    have h1 := stps_at hok (j / 37) (j % 37) hq (by omega)
    rw [show j / 37 * 37 + j % 37 = j by omega, hj] at h1
    have h2 := (hp _ hq).2 _ _ h1.symm
    rwa [show off + j / 37 * 37 + j % 37 = off + j by omega] at h2
end
end Go.Gx
/-! Reck -/
namespace Go.Gx
open Go.Proofs
set_option linter.unusedVariables false
set_option linter.unusedSimpArgs false
set_option maxRecDepth 100000
attribute [local irreducible] shaL cutD frontL
theorem usedX_take {X : List Blb} {k : Nat} {b : Blb} (h : X[k]? = some b) : usedX (X.take (k + 1)) = usedX (X.take k) + b.x.length + 32 := by
  rw [List.take_add_one, h]
  simp [usedX]
  omega
theorem Lives.after {L : List (Nat × Obj)} {w w' : World} (h : Lives L w) (hs : Step [] [] w w') : Lives L w' := Step.own0 (h.step0 hs)
section
variable {bs : Nat} {s : AS} {D L : List (Nat × Obj)} {w0 : World}
/-- What All's sequence reads, in a later world. -/
theorem seqOk_of (ok : s.Ok) (hw : Lives (L ++ D) w0) {b3 : Nat} {lv : Value} {Lv Y : List (Nat × Obj)} {R : List Row} (ha1 : OwnSl 101 33 lv R.length (rowsR R) Lv) (ha2 : R.length = s.X.length)
    (ha3 : ∀ (i : Nat) (r : Row) (b : Blb), (R : List Row)[i]? = some r → s.X[i]? = some b → r.d = b.d ∧ Held D r.v b.x) {W : World} (hs : Step [] (Y ++ ((b3, blk 99 [lv]) :: Lv)) w0 W) : SeqOk W b3 lv R (s.X.map fun b => (b.d, b.x)) := by
  have hl : (s.X.map fun b => (b.d, b.x)).length = R.length := by rw [List.length_map, ha2]
  have hul := used_len s.X
  have hou := ok.used
  refine ⟨?_, ?_, hl, by omega, ?_⟩
  · have h := hs.has (b3, blk 99 [lv]) (by simp)
    rw [cell_blk h]
    rfl
  · exact ha1.sl (L := []) (by rw [List.append_nil]; exact (Step.dropL hs).tail)
  · intro i r d x hr hx
    rw [List.getElem?_map] at hx
    cases hb : s.X[i]? with
    | none => rw [hb] at hx; cases hx
    | some b =>
      rw [hb] at hx
      have hobt := ha3 i r b hr hb
      obtain ⟨h1, h2⟩ := hobt
      simp only [Option.map_some, Option.some.injEq, Prod.mk.injEq] at hx
      obtain ⟨rfl, rfl⟩ := hx
      have hm := used_mem (List.mem_of_getElem? hb)
      exact ⟨h1, by omega, h2.sl fun p hp => (hw.step0 hs.clear).has p (by simp [hp])⟩
set_option maxHeartbeats 4000000 in
theorem reckoned_spec (hR : PRep bs s D L) (ok : s.Ok) (hw : Lives (L ++ D) w0) : Calls Try.prog 27 #[.pointer (some ⟨bs, 0, none⟩)] w0 (Ret0 (.bool true) w0) := by
  have hul := used_len s.X
  have hou := ok.used
  have hs : Step [] [] w0 w0 := Step.refl w0
  refine callsM (n := 32) Try.func27 rfl rfl rfl ?_
  refine CW.seq ?_
  refine CW.reg ?_
  refine WL.val rfl (run_assign) ?_
  refine WL.nil ?_
  refine CW.seq ?_
  refine CW.reg ?_
  refine WL.val rfl (run_move) ?_
  refine WL.enter rfl (run_call en36 rfl rfl) (all_abs hR ok hw) ?_
  rintro e w ⟨b3, lv, Lv, R, rfl, ha1, ha2, ha3, hq⟩
  refine ⟨_, rfl, ?_⟩
  replace hs := hs.callAll0 hq
  refine WL.val rfl (run_assign) ?_
  refine WL.nil ?_
  refine CW.seq <| CW.seq ?_
  refine CW.reg ?_
  refine WL.val rfl (run_move) ?_
  refine WL.val rfl (run_funcNil Try.underlying73 rfl rfl) ?_
  refine WL.nil ?_
  refine CW.cond rfl (fun h => ?_) (fun h => ?_)
  · cases h
  repeat (first | refine CW.seq ?_ | refine CW.skip ?_)
  refine CW.reg ?_
  refine WL.alloc ty3 rfl hs (fun b4 w hs => ?_)
  refine WL.store1 ty3 rfl rfl (rfl) hs (by first | (simp; done) | omega | (simp only [List.length_append, List.length_replicate, List.length_cons, List.length_nil, List.length_set]; omega) | (simp [Ent.cells, u8s]; done) | exact Nat.le_of_ble_eq_true rfl) (fun w hs => ?_)
  refine WL.nil ?_
  refine CW.seq ?_
  refine CW.reg ?_
  refine WL.alloc ty3 rfl hs (fun b5 w hs => ?_)
  refine WL.store1 ty3 rfl rfl (rfl) hs (by first | (simp; done) | omega | (simp only [List.length_append, List.length_replicate, List.length_cons, List.length_nil, List.length_set]; omega) | (simp [Ent.cells, u8s]; done) | exact Nat.le_of_ble_eq_true rfl) (fun w hs => ?_)
  refine WL.nil ?_
  refine CW.seq <| CW.seq ?_
  refine CW.reg ?_
  refine WL.val rfl (run_move) ?_
  refine WL.nil ?_
  refine CW.block ?_
  refine CW.rangeFunc2 (cap := [.pointer (some ⟨b3, 0, none⟩)]) en57 rfl hs ?_
  intro l b0 r w2 hrec hrs hrp hs2
  clear hs
  refine (all2_iter (b3 := b3) (lv := lv) (R := R) (X := s.X.map fun b => (b.d, b.x)) w2
    (J := fun k L W => L = [(l, .loop r), (b0, .deferred (some [])), (b5, blk 3 [.int .i64 (usedX (s.X.take k) : Nat)]), (b4, blk 3 [.int .i64 (k : Nat)])] ∧ Step [] (L ++ ((b3, blk 99 [lv]) :: Lv)) w0 W)
    (Jx := fun _ => False) (L0 := [(l, .loop r), (b0, .deferred (some [])), (b5, blk 3 [.int .i64 0]), (b4, blk 3 [.int .i64 0])]) ?_ ?_ ?_ ?_).mono ?_
  · rintro k L W W' ⟨rfl, hs⟩ h'
    exact ⟨rfl, hs.callE h'⟩
  · rintro k L W ⟨rfl, hs⟩
    exact seqOk_of ok hw ha1 ha2 ha3 hs
  · exact ⟨rfl, hs2⟩
  · rintro k d x L' W W1 v' Lv' hx ⟨rfl, hs⟩ hst hu'
    obtain ⟨b, hb, hbx⟩ : ∃ b, s.X[k]? = some b ∧ b.x = x := by
      rw [List.getElem?_map] at hx
      cases hb : s.X[k]? with
      | none => rw [hb] at hx; cases hx
      | some b =>
        rw [hb] at hx
        simp only [Option.map_some, Option.some.injEq, Prod.mk.injEq] at hx
        exact ⟨b, rfl, hx.2⟩
    subst hbx
    have hus := usedX_take hb
    have hle := usedX_take_le s.X (k + 1)
    have hkl := (List.getElem?_eq_some_iff.1 hb).1
    have hW1 := Step.call0 hs hst
    rw [← List.append_assoc] at hW1
    have hsW := Step.append_comm (L1 := Lv') (L2 := [_, _, _, _]) (Step.own hW1)
    have hobt := hu'.form
    obtain ⟨va, vc, rfl⟩ := hobt
    refine yields_of2 (n := 32) hrec hrs rfl rfl hsW ?_
    have hs3 := hsW
    refine CWI.reg rfl (fun _ _ _ h => h) ?_
    refine WL.val rfl (run_assign) ?_
    refine WL.nil ?_
    refine ⟨_, _, _, _, hsW, hrs, fun w3 hs => ?_⟩
    clear hs3
    repeat (first | refine CWI.seq ?_ | refine CWI.block ?_)
    refine CWI.reg rfl (fun _ _ _ h => h) ?_
    refine WL.val rfl (run_load1 ty3 rfl (hs.c3 rfl)) ?_
    refine WL.val rfl (run_add (c := ((k + 1 : Nat) : Int)) rfl rfl (by omega) (by omega)) ?_
    refine WL.store1_3 ty3 rfl rfl (rfl) hs (by first | (simp; done) | omega | (simp only [List.length_append, List.length_replicate, List.length_cons, List.length_nil, List.length_set]; omega) | (simp [Ent.cells, u8s]; done) | exact Nat.le_of_ble_eq_true rfl) (fun w hs => ?_)
    refine WL.nil ?_
    refine CWI.reg rfl (fun _ _ _ h => h) ?_
    refine WL.val rfl (run_load1 ty3 rfl (hs.c2 rfl)) ?_
    refine WL.val rfl (run_move) ?_
    refine WL.val rfl (run_lenSl Try.underlying22 rfl) ?_
    refine WL.val rfl (run_add (c := ((usedX (s.X.take k) + b.x.length : Nat) : Int)) rfl rfl (by omega) (by omega)) ?_
    refine WL.val rfl (run_add (c := ((usedX (s.X.take (k + 1)) : Nat) : Int)) rfl rfl (by omega) (by omega)) ?_
    refine WL.store1_2 ty3 rfl rfl (rfl) hs (by first | (simp; done) | omega | (simp only [List.length_append, List.length_replicate, List.length_cons, List.length_nil, List.length_set]; omega) | (simp [Ent.cells, u8s]; done) | exact Nat.le_of_ble_eq_true rfl) (fun w hs => ?_)
    refine WL.nil ?_
    refine ⟨_, _, _, _, hs, fun w' hs' => ?_⟩
    rw [Loop.at_back hrs hrp] at hs'
    rw [if_pos rfl]
    have hs4 := Step.dropR (L1 := [_, _, _, _]) hs'
    exact ⟨_, hs4, rfl, Step.call hW1 hs4⟩
  · rintro e w' ⟨hret, ⟨L', rfl, hs⟩ | h⟩
    · refine ⟨hret, behind_none hs hrs hrp fun w hs => ?_⟩
      simp only [List.length_map, List.take_length] at hs
      replace hs := hs.swap
      refine CW.seq ?_
      refine CW.quiet mixedP (by kernel_rfl) hs ?_
      refine QL.val rfl (fun w hs => run_load1 ty3 rfl (hs.c3 rfl)) ?_
      refine QL.val rfl (fun w hs => run_move) ?_
      refine QL.enter rfl (fun w => run_call en21 rfl rfl) (fun w hs => len_abs hR ok (hw.after hs.clear)) ?_
      refine QL.val rfl (fun w hs => run_bT (run_eql rfl rfl) (by rfl)) ?_
      refine QL.val rfl (fun w hs => run_move) ?_
      refine QL.yes rfl rfl rfl ?_
      refine QL.val rfl (fun w hs => run_load1 ty3 rfl (hs.c2 rfl)) ?_
      refine QL.yes rfl rfl rfl ?_; refine QL.val rfl (fun w hs => run_move) ?_
      refine QL.yes rfl rfl rfl ?_
      refine QL.enter rfl (fun w => run_call en22 rfl rfl) (fun w hs => used_abs hR ok (hw.after hs.clear)) ?_
      refine QL.yes rfl rfl rfl ?_
      refine QL.val rfl (fun w hs => run_bT (run_eql rfl rfl) (by rfl)) ?_
      refine QL.val rfl (fun w hs => run_pickT rfl) ?_
      refine QL.val rfl (fun w hs => run_assign) ?_
      refine QL.nil (fun w hs => ?_)
      refine CW.ret ?_
      refine finM_ret (bs := [b0]) (.inl rfl) hs fun a ha w2 hs2 => ⟨_, res_tmp1 ha rfl, rfl, hs2.clear⟩
    · exact h.elim
end
end Go.Gx
/-! Alike -/
namespace Go.Gx
open Go.Proofs
set_option linter.unusedVariables false
set_option linter.unusedSimpArgs false
set_option maxRecDepth 100000
attribute [local irreducible] shaL cutD frontL
section
variable {bp br : Nat} {s : AS} {D D' L R : List (Nat × Obj)} {w0 : World}
set_option maxHeartbeats 4000000 in
theorem alike_spec (hR : PRep bp s D L) (hT : RRep br s D' R) (ok : s.Ok) (hw : Lives (L ++ D) w0) (hw2 : Lives (R ++ D') w0) : Calls Try.prog 33 #[.pointer (some ⟨bp, 0, none⟩), .pointer (some ⟨br, 0, none⟩)] w0 (Ret0 (.bool true) w0) := by
  have hul := used_len s.X
  have hou := ok.used
  have hs : Step [] [] w0 w0 := Step.refl w0
  have hobt := hT.open ok hw2
  obtain ⟨ra, rc, Lr, T, o⟩ := hobt
  have hat : ∀ {w}, Step [] [] w0 w → At w br 0 (rsC s.k s.cap s.last (.slice ra s.X.length rc) s.gets s.puts) := fun h => At.of_blk (o.step h).hb
  refine callsM (n := 106) Try.func33 rfl rfl rfl ?_
  refine CW.seq ?_
  refine CW.reg ?_
  refine WL.box rfl (rfl) rfl hs (fun b2 w hs => ?_)
  refine WL.box rfl (rfl) rfl hs (fun b3 w hs => ?_)
  refine WL.alloc ty4 rfl hs (fun b4 w hs => ?_)
  refine WL.nil ?_
  refine CW.seq ?_
  refine CW.reg ?_
  refine WL.val rfl (run_load1 ty24 rfl (hs.c2 (v := .pointer (some ⟨bp, 0, none⟩)) rfl)) ?_
  refine WL.enter rfl (run_call en36 rfl rfl) (all_abs hR ok (hw.after hs.clear)) ?_
  rintro e w ⟨bq, lv, Lv, Q, rfl, ha1, ha2, ha3, hq⟩
  refine ⟨_, rfl, ?_⟩
  replace hs := (Step.call0 hs hq).append_comm (L1 := _ :: Lv) (L2 := [_, _, _])
  refine WL.val rfl (run_assign) ?_
  refine WL.nil ?_
  refine CW.seq <| CW.seq ?_
  refine CW.quiet mixedP (by kernel_rfl) hs ?_
  refine QL.val rfl (fun w hs => run_move) ?_
  refine QL.val rfl (fun w hs => run_funcNil Try.underlying73 rfl rfl) ?_
  refine QL.val rfl (fun w hs => run_move) ?_
  refine QL.yes rfl rfl rfl ?_
  refine QL.val rfl (fun w hs => run_load1 ty24 rfl (hs.c2 (v := .pointer (some ⟨bp, 0, none⟩)) rfl)) ?_
  refine QL.yes rfl rfl rfl ?_
  refine QL.enter rfl (fun w => run_call en21 rfl rfl) (fun w hs => len_abs hR ok (hw.after hs.clear)) ?_
  refine QL.yes rfl rfl rfl ?_
  refine QL.val rfl (fun w hs => run_load1 ty62 rfl (hs.c1 (v := .pointer (some ⟨br, 0, none⟩)) rfl)) ?_
  refine QL.yes rfl rfl rfl ?_; refine QL.val rfl (fun w hs => run_nilCheck rfl) ?_
  refine QL.yes rfl rfl rfl ?_; refine QL.val rfl (fun w hs => run_field (o' := 3) Try.underlying70 rfl ty68 rfl rfl rfl) ?_
  refine QL.yes rfl rfl rfl ?_
  refine QL.val rfl (fun w hs => run_load1 ty68 rfl ((hat hs.clear).cell (j := 3) rfl)) ?_
  refine QL.yes rfl rfl rfl ?_; refine QL.val rfl (fun w hs => run_lenSl Try.underlying68 rfl) ?_
  refine QL.yes rfl rfl rfl ?_
  refine QL.val rfl (fun w hs => run_bF (run_neq rfl rfl) (by exact fun h => h rfl)) ?_
  refine QL.val rfl (fun w hs => run_pickF rfl) ?_
  refine QL.val rfl (fun w hs => run_move) ?_
  refine QL.yes rfl rfl rfl ?_
  refine QL.val rfl (fun w hs => run_load1 ty24 rfl (hs.c2 (v := .pointer (some ⟨bp, 0, none⟩)) rfl)) ?_
  refine QL.yes rfl rfl rfl ?_
  refine QL.enter rfl (fun w => run_call en22 rfl rfl) (fun w hs => used_abs hR ok (hw.after hs.clear)) ?_
  refine QL.yes rfl rfl rfl ?_
  refine QL.val rfl (fun w hs => run_load1 ty62 rfl (hs.c1 (v := .pointer (some ⟨br, 0, none⟩)) rfl)) ?_
  refine QL.yes rfl rfl rfl ?_
  refine QL.enter rfl (fun w => run_call en53 rfl rfl) (fun w hs => rused_spec (o.step hs.clear) ok) ?_
  refine QL.yes rfl rfl rfl ?_
  refine QL.val rfl (fun w hs => run_bF (run_neq rfl rfl) (by exact fun h => h rfl)) ?_
  refine QL.val rfl (fun w hs => run_pickF rfl) ?_
  refine QL.val rfl (fun w hs => run_move) ?_
  refine QL.yes rfl rfl rfl ?_
  refine QL.val rfl (fun w hs => run_load1 ty24 rfl (hs.c2 (v := .pointer (some ⟨bp, 0, none⟩)) rfl)) ?_
  refine QL.yes rfl rfl rfl ?_
  refine QL.enter rfl (fun w => run_call en23 rfl rfl) (fun w hs => cap_abs hR ok (hw.after hs.clear)) ?_
  refine QL.yes rfl rfl rfl ?_
  refine QL.val rfl (fun w hs => run_load1 ty62 rfl (hs.c1 (v := .pointer (some ⟨br, 0, none⟩)) rfl)) ?_
  refine QL.yes rfl rfl rfl ?_; refine QL.val rfl (fun w hs => run_nilCheck rfl) ?_
  refine QL.yes rfl rfl rfl ?_; refine QL.val rfl (fun w hs => run_field (o' := 1) Try.underlying70 rfl ty3 rfl rfl rfl) ?_
  refine QL.yes rfl rfl rfl ?_
  refine QL.val rfl (fun w hs => run_load1 ty3 rfl ((hat hs.clear).cell (j := 1) rfl)) ?_
  refine QL.yes rfl rfl rfl ?_
  refine QL.val rfl (fun w hs => run_bF (run_neq rfl rfl) (by exact fun h => h rfl)) ?_
  refine QL.val rfl (fun w hs => run_pickF rfl) ?_
  refine QL.val rfl (fun w hs => run_move) ?_
  refine QL.yes rfl rfl rfl ?_
  refine QL.val rfl (fun w hs => run_load1 ty24 rfl (hs.c2 (v := .pointer (some ⟨bp, 0, none⟩)) rfl)) ?_
  refine QL.yes rfl rfl rfl ?_
  refine QL.enter rfl (fun w => run_call en14 rfl rfl) (fun w hs => width_abs hR ok (hw.after hs.clear)) ?_
  refine QL.yes rfl rfl rfl ?_
  refine QL.val rfl (fun w hs => run_load1 ty62 rfl (hs.c1 (v := .pointer (some ⟨br, 0, none⟩)) rfl)) ?_
  refine QL.yes rfl rfl rfl ?_; refine QL.val rfl (fun w hs => run_nilCheck rfl) ?_
  refine QL.yes rfl rfl rfl ?_; refine QL.val rfl (fun w hs => run_field (o' := 0) Try.underlying70 rfl ty3 rfl rfl rfl) ?_
  refine QL.yes rfl rfl rfl ?_
  refine QL.val rfl (fun w hs => run_load1 ty3 rfl ((hat hs.clear).cell (j := 0) rfl)) ?_
  refine QL.yes rfl rfl rfl ?_
  refine QL.val rfl (fun w hs => run_bF (run_neq rfl rfl) (by exact fun h => h rfl)) ?_
  refine QL.val rfl (fun w hs => run_pickF rfl) ?_
  refine QL.nil (fun w hs => ?_)
  refine CW.cond rfl (fun h => ?_) (fun h => ?_)
  · cases h
  repeat (first | refine CW.seq ?_ | refine CW.skip ?_)
  refine CW.reg ?_
  refine WL.alloc ty3 rfl hs (fun b6 w hs => ?_)
  refine WL.store1 ty3 rfl rfl (rfl) hs (by first | (simp; done) | omega | (simp only [List.length_append, List.length_replicate, List.length_cons, List.length_nil, List.length_set]; omega) | (simp [Ent.cells, u8s]; done) | exact Nat.le_of_ble_eq_true rfl) (fun w hs => ?_)
  refine WL.nil ?_
  refine CW.seq <| CW.seq ?_
  refine CW.reg ?_
  refine WL.val rfl (run_move) ?_
  refine WL.nil ?_
  refine CW.block ?_
  refine CW.rangeFunc2 (cap := [.pointer (some ⟨bq, 0, none⟩)]) en57 rfl hs ?_
  intro l b0 r w2 hrec hrs hrp hs2
  clear hs
  refine (all2_iter (b3 := bq) (lv := lv) (R := Q) (X := s.X.map fun b => (b.d, b.x)) w2
    (J := fun k L W => L = [(l, .loop r), (b0, .deferred (some [])), (b6, blk 3 [.int .i64 (k : Nat)]), (b4, blk 4 [.bool false])] ∧ Step [] (L ++ ((b3, blk 62 [.pointer (some ⟨br, 0, none⟩)]) :: (b2, blk 24 [.pointer (some ⟨bp, 0, none⟩)]) :: (bq, blk 99 [lv]) :: Lv)) w0 W)
    (Jx := fun _ => False) (L0 := [(l, .loop r), (b0, .deferred (some [])), (b6, blk 3 [.int .i64 0]), (b4, blk 4 [.bool false])]) ?_ ?_ ?_ ?_).mono ?_
  · rintro k L W W' ⟨rfl, hs⟩ h'
    exact ⟨rfl, hs.callE h'⟩
  · rintro k L W ⟨rfl, hs⟩
    exact seqOk_of (Y := [_, _, _, _, _, _]) ok hw ha1 ha2 ha3 hs
  · exact ⟨rfl, hs2⟩
  · rintro k d x L' W W1 v' Lv' hx ⟨rfl, hs⟩ hst hu'
    obtain ⟨b, hb, hbd, hbx⟩ : ∃ b, s.X[k]? = some b ∧ b.d = d ∧ b.x = x := by
      rw [List.getElem?_map] at hx
      cases hb : s.X[k]? with
      | none => rw [hb] at hx; cases hx
      | some b =>
        rw [hb] at hx
        simp only [Option.map_some, Option.some.injEq, Prod.mk.injEq] at hx
        exact ⟨b, rfl, hx.1, hx.2⟩
    subst hbd hbx
    have hkl := (List.getElem?_eq_some_iff.1 hb).1
    have hd32 := ok.len b (List.mem_of_getElem? hb)
    have hdl : (u8s b.d).length = 32 := by rw [u8s, List.length_map, hd32]
    have hm := used_mem (List.mem_of_getElem? hb)
    have hW1 := Step.call0 hs hst
    rw [← List.append_assoc] at hW1
    have hsW := Step.append_comm (L1 := Lv') (L2 := [_, _, _, _]) (Step.own hW1)
    have hobt := hu'.form
    obtain ⟨va, vc, rfl⟩ := hobt
    refine yields_of2 (n := 106) hrec hrs rfl rfl hsW ?_
    have hs := hsW
    refine CWI.seq ?_
    refine CWI.reg rfl (fun _ _ _ h => h) ?_
    refine WL.alloc ty27 rfl hs (fun b7 w hs => ?_)
    refine WL.storeAll ty27 rfl rfl ((hdl)) (Cells1.u8s _) hs (by first | rfl | assumption) (fun w hs => ?_)
    refine WL.nil ?_
    refine CWI.reg rfl (fun _ _ _ h => h) ?_
    refine WL.val rfl (run_assign) ?_
    refine WL.nil ?_
    have hobt := o.row hb
    obtain ⟨bv, rv, hra, hrv, hrow⟩ := hobt
    subst hra
    have hcl : ∀ {Y w}, Step ((Lv' ++ [(l, Obj.loop r), (b0, .deferred (some [])), (b6, blk 3 [.int .i64 (k : Nat)]), (b4, blk 4 [.bool false])]).map (·.1)) Y W1 w → Step [] [] w0 w := fun h => (Step.call hW1 h).clear
    have hb3 : ∀ {Y w}, Step ((Lv' ++ [(l, Obj.loop r), (b0, .deferred (some [])), (b6, blk 3 [.int .i64 (k : Nat)]), (b4, blk 4 [.bool false])]).map (·.1)) Y W1 w → w.cell? ⟨b3, 0, none⟩ = some (.pointer (some ⟨br, 0, none⟩)) := fun h => by
      have h2 := (Step.call hW1 h).has (b3, blk 62 [.pointer (some ⟨br, 0, none⟩)]) (by simp)
      rw [cell_blk h2]; rfl
    have hb2 : ∀ {Y w}, Step ((Lv' ++ [(l, Obj.loop r), (b0, .deferred (some [])), (b6, blk 3 [.int .i64 (k : Nat)]), (b4, blk 4 [.bool false])]).map (·.1)) Y W1 w → w.cell? ⟨b2, 0, none⟩ = some (.pointer (some ⟨bp, 0, none⟩)) := fun h => by
      have h2 := (Step.call hW1 h).has (b2, blk 24 [.pointer (some ⟨bp, 0, none⟩)]) (by simp)
      rw [cell_blk h2]; rfl
    have hro : ∀ {w}, Step [] [] w0 w → At w bv (0 + k * 34) (rbC (b.d, rv, b.st)) := fun h => hrow.step h (by simp)
    have hst2 := fun {w} (h : Step [] [] w0 w) => stamp_abs (d := b.d) hR ok (hw.after h) hd32
    have hsv : s.stamp b.d = b.st := by unfold AS.stamp; rw [findX_mem ok.sorted.nodup (List.mem_of_getElem? hb)]
    rw [hsv] at hst2
    have hsame := fun {w1 u1 u2} h1 h2 => same1_spec (u := u1) (v := u2) (x := b.x) (y := b.x) w1 h1 h2 (by omega) (by omega)
    simp only [decide_true] at hsame
    have hgot : Held Lv' (.slice va b.x.length vc) b.x := ⟨Lv', hu', fun p hp => hp⟩
    refine ⟨_, _, _, _, hs.swap, hrs, fun w3 hs => ?_⟩
    repeat (first | refine CWI.seq ?_ | refine CWI.block ?_)
    refine CWI.quiet rfl (fun _ _ _ h => h) mixedP (by kernel_rfl) hs ?_
    refine QL.val rfl (fun w hs => run_load1 ty3 rfl (hs.c3 rfl)) ?_
    refine QL.val rfl (fun w hs => run_load1 ty62 rfl (hb3 hs)) ?_
    refine QL.val rfl (fun w hs => run_nilCheck rfl) ?_
    refine QL.val rfl (fun w hs => run_field (o' := 3) Try.underlying70 rfl ty68 rfl rfl rfl) ?_
    refine QL.val rfl (fun w hs => run_load1 ty68 rfl ((hat (hcl hs)).cell (j := 3) rfl)) ?_
    refine QL.val rfl (fun w hs => run_lenSl Try.underlying68 rfl) ?_
    refine QL.val rfl (fun w hs => run_bF (run_geq rfl rfl) (by omega)) ?_
    refine QL.val rfl (fun w hs => run_move) ?_
    refine QL.yes rfl rfl rfl ?_
    refine QL.val rfl (fun w hs => run_loadN ty27 rfl hdl hs.a1) ?_
    refine QL.yes rfl rfl rfl ?_
    refine QL.val rfl (fun w hs => run_load1 ty62 rfl (hb3 hs)) ?_
    refine QL.yes rfl rfl rfl ?_; refine QL.val rfl (fun w hs => run_nilCheck rfl) ?_
    refine QL.yes rfl rfl rfl ?_; refine QL.val rfl (fun w hs => run_field (o' := 3) Try.underlying70 rfl ty68 rfl rfl rfl) ?_
    refine QL.yes rfl rfl rfl ?_
    refine QL.val rfl (fun w hs => run_load1 ty68 rfl ((hat (hcl hs)).cell (j := 3) rfl)) ?_
    refine QL.yes rfl rfl rfl ?_
    refine QL.val rfl (fun w hs => run_load1 ty3 rfl (hs.c3 rfl)) ?_
    refine QL.yes rfl rfl rfl ?_; (first | refine QL.val rfl (fun w hs => run_ixSlN Try.underlying68 ty76 rfl rfl (by omega)) ?_ | refine QL.val rfl (fun w hs => run_ixSl Try.underlying68 ty76 rfl rfl (by omega)) ?_)
    refine QL.yes rfl rfl rfl ?_; refine QL.val rfl (fun w hs => run_field (o' := 0) Try.underlying76 rfl ty27 rfl rfl rfl) ?_
    refine QL.yes rfl rfl rfl ?_
    refine QL.val rfl (fun w hs => run_loadN ty27 rfl hdl (by have h := (hro (hcl hs)).take 32; rw [rbC_fst hd32] at h; exact h)) ?_
    refine QL.yes rfl rfl rfl ?_
    refine QL.val rfl (fun w hs => run_bF (run_neDig hd32 hd32 rfl rfl) (fun h => h rfl)) ?_
    refine QL.val rfl (fun w hs => run_pickF rfl) ?_
    refine QL.val rfl (fun w hs => run_move) ?_
    refine QL.yes rfl rfl rfl ?_; refine QL.val rfl (fun w hs => run_move) ?_
    refine QL.yes rfl rfl rfl ?_
    refine QL.val rfl (fun w hs => run_load1 ty62 rfl (hb3 hs)) ?_
    refine QL.yes rfl rfl rfl ?_; refine QL.val rfl (fun w hs => run_nilCheck rfl) ?_
    refine QL.yes rfl rfl rfl ?_; refine QL.val rfl (fun w hs => run_field (o' := 3) Try.underlying70 rfl ty68 rfl rfl rfl) ?_
    refine QL.yes rfl rfl rfl ?_
    refine QL.val rfl (fun w hs => run_load1 ty68 rfl ((hat (hcl hs)).cell (j := 3) rfl)) ?_
    refine QL.yes rfl rfl rfl ?_
    refine QL.val rfl (fun w hs => run_load1 ty3 rfl (hs.c3 rfl)) ?_
    refine QL.yes rfl rfl rfl ?_; (first | refine QL.val rfl (fun w hs => run_ixSlN Try.underlying68 ty76 rfl rfl (by omega)) ?_ | refine QL.val rfl (fun w hs => run_ixSl Try.underlying68 ty76 rfl rfl (by omega)) ?_)
    refine QL.yes rfl rfl rfl ?_; refine QL.val rfl (fun w hs => run_field (o' := 32) Try.underlying76 rfl ty22 rfl rfl rfl) ?_
    refine QL.yes rfl rfl rfl ?_
    refine QL.val rfl (fun w hs => run_load1 ty22 rfl ((hro (hcl hs)).cell (rbC_32 hd32))) ?_
    refine QL.yes rfl rfl rfl ?_
    refine QL.enter rfl (fun w => run_call en18 rfl rfl) (fun w hs => hsame (hgot.sl fun p hp => hs.has p (by simp [hp])) (hrv.sl fun p hp => (hw2.after (hcl hs)).has p (by simp [hp]))) ?_
    refine QL.yes rfl rfl rfl ?_; (first | refine QL.val rfl (fun w hs => run_notB rfl) ?_ | refine QL.val rfl (fun w hs => run_not rfl) ?_)
    refine QL.val rfl (fun w hs => run_pickF rfl) ?_
    refine QL.val rfl (fun w hs => run_move) ?_
    refine QL.yes rfl rfl rfl ?_
    refine QL.val rfl (fun w hs => run_load1 ty24 rfl (hb2 hs)) ?_
    refine QL.yes rfl rfl rfl ?_
    refine QL.val rfl (fun w hs => run_loadN ty27 rfl hdl hs.a1) ?_
    refine QL.yes rfl rfl rfl ?_
    refine QL.enter rfl (fun w => run_call en48 rfl rfl) (fun w hs => hst2 (hcl hs)) ?_
    refine QL.yes rfl rfl rfl ?_
    refine QL.val rfl (fun w hs => run_load1 ty62 rfl (hb3 hs)) ?_
    refine QL.yes rfl rfl rfl ?_; refine QL.val rfl (fun w hs => run_nilCheck rfl) ?_
    refine QL.yes rfl rfl rfl ?_; refine QL.val rfl (fun w hs => run_field (o' := 3) Try.underlying70 rfl ty68 rfl rfl rfl) ?_
    refine QL.yes rfl rfl rfl ?_
    refine QL.val rfl (fun w hs => run_load1 ty68 rfl ((hat (hcl hs)).cell (j := 3) rfl)) ?_
    refine QL.yes rfl rfl rfl ?_
    refine QL.val rfl (fun w hs => run_load1 ty3 rfl (hs.c3 rfl)) ?_
    refine QL.yes rfl rfl rfl ?_; (first | refine QL.val rfl (fun w hs => run_ixSlN Try.underlying68 ty76 rfl rfl (by omega)) ?_ | refine QL.val rfl (fun w hs => run_ixSl Try.underlying68 ty76 rfl rfl (by omega)) ?_)
    refine QL.yes rfl rfl rfl ?_; refine QL.val rfl (fun w hs => run_field (o' := 33) Try.underlying76 rfl ty3 rfl rfl rfl) ?_
    refine QL.yes rfl rfl rfl ?_
    refine QL.val rfl (fun w hs => run_load1 ty3 rfl ((hro (hcl hs)).cell (rbC_33 hd32))) ?_
    refine QL.yes rfl rfl rfl ?_
    refine QL.val rfl (fun w hs => run_bF (run_neq rfl rfl) (by exact fun h => h rfl)) ?_
    refine QL.val rfl (fun w hs => run_pickF rfl) ?_
    refine QL.nil (fun w hs => ?_)
    repeat (first | refine CWI.skip ?_ | refine CWI.condF rfl ?_)
    refine CWI.reg rfl (fun _ _ _ h => h) ?_
    refine WL.val rfl (run_load1 ty3 rfl (hs.c3 rfl)) ?_
    refine WL.val rfl (run_add (c := ((k + 1 : Nat) : Int)) rfl rfl (by omega) (by omega)) ?_
    refine WL.store1_3 ty3 rfl rfl (rfl) hs (by first | (simp; done) | omega | (simp only [List.length_append, List.length_replicate, List.length_cons, List.length_nil, List.length_set]; omega) | (simp [Ent.cells, u8s]; done) | exact Nat.le_of_ble_eq_true rfl) (fun w hs => ?_)
    refine WL.nil ?_
    refine ⟨_, _, _, _, hs, fun w' hs' => ?_⟩
    rw [Loop.at_back hrs hrp] at hs'
    rw [if_pos rfl]
    have hs4 := Step.dropR (L1 := [_, _, _, _]) hs'.swap.tail
    exact ⟨_, hs4, rfl, Step.call hW1 hs4⟩
  · rintro e w' ⟨hret, ⟨L', rfl, hs⟩ | h⟩
    · refine ⟨hret, behind_none hs hrs hrp fun w hs => ?_⟩
      simp only [List.length_map] at hs
      replace hs := hs.swap
      refine CW.seq ?_
      refine CW.quietT (l1 := [_, _, _, _, _, _, _]) (l2 := [_]) 7 rfl mixedP rfl (by kernel_rfl) hs ?_
      refine QL.val rfl (fun w hs => run_load1 ty3 rfl (hs.c2 rfl)) ?_
      refine QL.val rfl (fun w hs => run_load1 ty62 rfl (hs.c4 (v := .pointer (some ⟨br, 0, none⟩)) rfl)) ?_
      refine QL.val rfl (fun w hs => run_nilCheck rfl) ?_
      refine QL.val rfl (fun w hs => run_field (o' := 3) Try.underlying70 rfl ty68 rfl rfl rfl) ?_
      refine QL.val rfl (fun w hs => run_load1 ty68 rfl ((hat hs.clear).cell (j := 3) rfl)) ?_
      refine QL.val rfl (fun w hs => run_lenSl Try.underlying68 rfl) ?_
      refine QL.val rfl (fun w hs => run_bT (run_eql rfl rfl) (by rfl)) ?_
      refine QL.nil (fun w hs => ?_)
      refine WL.store1_3 ty4 rfl rfl (rfl) hs (by first | (simp; done) | omega | (simp only [List.length_append, List.length_replicate, List.length_cons, List.length_nil, List.length_set]; omega) | (simp [Ent.cells, u8s]; done) | exact Nat.le_of_ble_eq_true rfl) (fun w hs => ?_)
      refine WL.nil ?_
      refine CW.ret ?_
      refine finM_ret (bs := [b0]) (.inl rfl) hs fun a ha w2 hs2 => ⟨_, res_cell1 ha rfl rfl (run_loadVar1 ty4 (hs2.c3 rfl)), rfl, hs2.clear⟩
    · exact h.elim
end
end Go.Gx
/-! World1 -/
namespace Go.Gx
open Go.Proofs
set_option linter.unusedVariables false
set_option linter.unusedSimpArgs false
set_option maxRecDepth 100000
attribute [local irreducible] shaL cutD frontL
/-- A World's cells. -/
def woC (bp br : Nat) (v : Value) : List Value := [.pointer (some ⟨bp, 0, none⟩), .pointer (some ⟨br, 0, none⟩), v]
theorem bld_world (a b : Option Addr) (w : World) : (Instr.build 64 #[(0, .pointer a), (1, .pointer b)]).run Try.prog w = .ok (.agg #[.pointer a, .pointer b, .slice none 0 0]) w := by kernel_rfl
theorem made_ok {k c : Nat} (hk1 : 1 ≤ k) (hk : k ≤ 32) (hc : c ≤ 67108864) (w0 : World) : Calls Try.prog 31 #[.int .i64 (k : Nat), .int .i64 (c : Nat)] w0 fun e w' => ∃ bw bp br L R, e = .returned (.tuple #[.pointer (some ⟨bw, 0, none⟩), .bool true]) ∧ PRep bp (newS k c) [] L ∧ RRep br (newS k c) [] R ∧ Step [] ((bw, blk 64 (woC bp br (.slice none 0 0))) :: (R ++ L)) w0 w' := by
  have hs : Step [] [] w0 w0 := Step.refl w0
  refine calls (n := 39) Try.func31 rfl rfl rfl ?_
  repeat (first | refine CW.seq ?_ | refine CW.block ?_ | refine CW.skip ?_ | refine CW.label ?_ | refine CW.exit ?_ | refine CW.condT rfl ?_ | refine CW.condF rfl ?_)
  refine CW.reg ?_
  refine WL.val rfl (run_assign) ?_
  refine WL.val rfl (run_assign) ?_
  refine WL.nil ?_
  repeat (first | refine CW.seq ?_ | refine CW.block ?_ | refine CW.skip ?_ | refine CW.label ?_ | refine CW.exit ?_ | refine CW.condT rfl ?_ | refine CW.condF rfl ?_)
  refine CW.reg ?_
  refine WL.val rfl (run_move) ?_
  refine WL.val rfl (run_move) ?_
  refine WL.enter rfl (run_call en20 rfl rfl) (new_abs hk1 hk hc _) ?_
  rintro e w ⟨bp, L, rfl, hR, hq⟩
  refine ⟨_, rfl, ?_⟩
  replace hs := hs.callAll0 hq
  refine WL.val rfl (run_move) ?_
  refine WL.val rfl (run_extract rfl rfl) ?_
  refine WL.val rfl (run_extract rfl rfl) ?_
  refine WL.val rfl (run_assign) ?_
  refine WL.val rfl (run_assign) ?_
  refine WL.nil ?_
  repeat (first | refine CW.seq ?_ | refine CW.block ?_ | refine CW.skip ?_ | refine CW.label ?_ | refine CW.exit ?_ | refine CW.condT rfl ?_ | refine CW.condF rfl ?_)
  refine CW.reg ?_
  refine WL.val rfl (run_move) ?_
  refine WL.val rfl (run_move) ?_
  refine WL.enter rfl (run_call en49 rfl rfl) (rnew_abs hk1 hk hc _) ?_
  rintro e w ⟨br, R, rfl, hT, hq⟩
  refine ⟨_, rfl, ?_⟩
  replace hs := Step.call0 hs hq
  refine WL.val rfl (run_move) ?_
  refine WL.val rfl (run_extract rfl rfl) ?_
  refine WL.val rfl (run_extract rfl rfl) ?_
  refine WL.val rfl (run_assign) ?_
  refine WL.val rfl (run_assign) ?_
  refine WL.nil ?_
  repeat (first | refine CW.seq ?_ | refine CW.block ?_ | refine CW.skip ?_ | refine CW.label ?_ | refine CW.exit ?_ | refine CW.condT rfl ?_ | refine CW.condF rfl ?_)
  refine CW.reg ?_
  refine WL.val rfl (run_move) ?_
  refine WL.val rfl (run_move) ?_
  refine WL.val rfl (run_bF (run_neq rfl rfl) (by decide)) ?_
  refine WL.val rfl (run_move) ?_
  first | (refine WL.yes rfl rfl rfl ?_; refine WL.val rfl (run_move) ?_) | refine WL.no rfl rfl rfl (.inl rfl) ?_ | refine WL.no rfl rfl rfl (.inr rfl) ?_
  refine WL.yes rfl rfl rfl ?_
  refine WL.val rfl (run_ptrNil Try.underlying24 rfl rfl) ?_
  first | (refine WL.yes rfl rfl rfl ?_; refine WL.val rfl (run_move) ?_) | refine WL.no rfl rfl rfl (.inl rfl) ?_ | refine WL.no rfl rfl rfl (.inr rfl) ?_
  refine WL.yes rfl rfl rfl ?_
  refine WL.val rfl (run_ptrNil Try.underlying62 rfl rfl) ?_
  first | (refine WL.yes rfl rfl rfl ?_; refine WL.val rfl (run_neqB Try.underlying4 rfl rfl) ?_) | refine WL.no rfl rfl rfl (.inl rfl) ?_ | refine WL.no rfl rfl rfl (.inr rfl) ?_
  first | refine WL.val rfl (run_pickT rfl) ?_ | refine WL.val rfl (run_pickF rfl) ?_
  refine WL.nil ?_
  repeat (first | refine CW.seq ?_ | refine CW.block ?_ | refine CW.skip ?_ | refine CW.label ?_ | refine CW.exit ?_)
  first | refine CW.condP rfl (fun h => ?_) (fun h => ?_) | refine CW.cond rfl (fun h => ?_) (fun h => ?_)
  · cases h
  repeat (first | refine CW.seq ?_ | refine CW.block ?_ | refine CW.skip ?_ | refine CW.label ?_ | refine CW.exit ?_ | refine CW.condT rfl ?_ | refine CW.condF rfl ?_)
  refine CW.reg ?_
  refine WL.val rfl (run_move) ?_
  refine WL.val rfl (run_ptrNil Try.underlying24 rfl rfl) ?_
  refine WL.nil ?_
  repeat (first | refine CW.seq ?_ | refine CW.block ?_ | refine CW.skip ?_ | refine CW.label ?_ | refine CW.exit ?_)
  first | refine CW.condP rfl (fun h2 => ?_) (fun h2 => ?_) | refine CW.cond rfl (fun h2 => ?_) (fun h2 => ?_)
  · cases h2
  repeat (first | refine CW.seq ?_ | refine CW.block ?_ | refine CW.skip ?_ | refine CW.label ?_ | refine CW.exit ?_ | refine CW.condT rfl ?_ | refine CW.condF rfl ?_)
  refine CW.reg ?_
  refine WL.val rfl (run_move) ?_
  refine WL.val rfl (run_move) ?_
  refine WL.val rfl (run_build rfl ((bld_world _ _ _))) ?_
  refine WL.box (cs := woC bp br (.slice none 0 0)) rfl rfl rfl hs (fun b38 w hs => ?_)
  refine WL.val rfl (run_assign) ?_
  refine WL.val rfl (run_assign) ?_
  refine WL.nil ?_
  repeat (first | refine CW.seq ?_ | refine CW.block ?_ | refine CW.skip ?_ | refine CW.label ?_ | refine CW.exit ?_ | refine CW.condT rfl ?_ | refine CW.condF rfl ?_)
  refine CW.ret ?_
  refine fin_ret2 rfl ?_
  exact ⟨b38, bp, br, L, R, rfl, hR, hT, hs⟩
theorem made_bad {k c : Int} (h : (k < 1 ∨ 32 < k) ∨ ¬ (0 ≤ c ∧ c ≤ 67108864)) (w0 : World) : Calls Try.prog 31 #[.int .i64 k, .int .i64 c] w0 (Ret0 (.tuple #[.pointer none, .bool true]) w0) := by
  have hs : Step [] [] w0 w0 := Step.refl w0
  obtain ⟨er, h1, h2⟩ : ∃ er : Nat, (∀ w, Calls Try.prog 20 #[.int .i64 k, .int .i64 c] w (Ret0 (.tuple #[.pointer none, .int .i64 (er : Nat)]) w)) ∧ (∀ w, Calls Try.prog 49 #[.int .i64 k, .int .i64 c] w (Ret0 (.tuple #[.pointer none, .int .i64 (er : Nat)]) w)) := by
    by_cases hk : k < 1 ∨ 32 < k
    · exact ⟨3, fun w => new_width hk w, fun w => rnew_width hk w⟩
    · have hc : ¬ (0 ≤ c ∧ c ≤ 67108864) := by omega
      have hobt : ∃ m : Nat, k = m := ⟨k.toNat, by omega⟩
      obtain ⟨m, rfl⟩ := hobt
      exact ⟨1, fun w => new_arg (by omega) (by omega) hc w, fun w => rnew_arg (by omega) (by omega) hc w⟩
  refine calls (n := 39) Try.func31 rfl rfl rfl ?_
  repeat (first | refine CW.seq ?_ | refine CW.block ?_ | refine CW.skip ?_ | refine CW.label ?_ | refine CW.exit ?_ | refine CW.condT rfl ?_ | refine CW.condF rfl ?_)
  refine CW.reg ?_
  refine WL.val rfl (run_assign) ?_
  refine WL.val rfl (run_assign) ?_
  refine WL.nil ?_
  repeat (first | refine CW.seq ?_ | refine CW.block ?_ | refine CW.skip ?_ | refine CW.label ?_ | refine CW.exit ?_ | refine CW.condT rfl ?_ | refine CW.condF rfl ?_)
  refine CW.reg ?_
  refine WL.val rfl (run_move) ?_
  refine WL.val rfl (run_move) ?_
  refine WL.enter rfl (run_call en20 rfl rfl) (h1 _) ?_
  rintro e w ⟨rfl, hq⟩
  refine ⟨_, rfl, ?_⟩
  replace hs := hs.callE hq
  refine WL.val rfl (run_move) ?_
  refine WL.val rfl (run_extract rfl rfl) ?_
  refine WL.val rfl (run_extract rfl rfl) ?_
  refine WL.val rfl (run_assign) ?_
  refine WL.val rfl (run_assign) ?_
  refine WL.nil ?_
  repeat (first | refine CW.seq ?_ | refine CW.block ?_ | refine CW.skip ?_ | refine CW.label ?_ | refine CW.exit ?_ | refine CW.condT rfl ?_ | refine CW.condF rfl ?_)
  refine CW.reg ?_
  refine WL.val rfl (run_move) ?_
  refine WL.val rfl (run_move) ?_
  refine WL.enter rfl (run_call en49 rfl rfl) (h2 _) ?_
  rintro e w ⟨rfl, hq⟩
  refine ⟨_, rfl, ?_⟩
  replace hs := hs.callE hq
  refine WL.val rfl (run_move) ?_
  refine WL.val rfl (run_extract rfl rfl) ?_
  refine WL.val rfl (run_extract rfl rfl) ?_
  refine WL.val rfl (run_assign) ?_
  refine WL.val rfl (run_assign) ?_
  refine WL.nil ?_
  repeat (first | refine CW.seq ?_ | refine CW.block ?_ | refine CW.skip ?_ | refine CW.label ?_ | refine CW.exit ?_ | refine CW.condT rfl ?_ | refine CW.condF rfl ?_)
  refine CW.reg ?_
  refine WL.val rfl (run_move) ?_
  refine WL.val rfl (run_move) ?_
  refine WL.val rfl (run_bF (run_neq rfl rfl) (by exact fun h => h rfl)) ?_
  refine WL.val rfl (run_move) ?_
  first | (refine WL.yes rfl rfl rfl ?_; refine WL.val rfl (run_move) ?_) | refine WL.no rfl rfl rfl (.inl rfl) ?_ | refine WL.no rfl rfl rfl (.inr rfl) ?_
  refine WL.yes rfl rfl rfl ?_
  refine WL.val rfl (run_nilNil Try.underlying24 rfl rfl) ?_
  first | (refine WL.yes rfl rfl rfl ?_; refine WL.val rfl (run_move) ?_) | refine WL.no rfl rfl rfl (.inl rfl) ?_ | refine WL.no rfl rfl rfl (.inr rfl) ?_
  refine WL.yes rfl rfl rfl ?_
  refine WL.val rfl (run_nilNil Try.underlying62 rfl rfl) ?_
  first | (refine WL.yes rfl rfl rfl ?_; refine WL.val rfl (run_neqB Try.underlying4 rfl rfl) ?_) | refine WL.no rfl rfl rfl (.inl rfl) ?_ | refine WL.no rfl rfl rfl (.inr rfl) ?_
  first | refine WL.val rfl (run_pickT rfl) ?_ | refine WL.val rfl (run_pickF rfl) ?_
  refine WL.nil ?_
  repeat (first | refine CW.seq ?_ | refine CW.block ?_ | refine CW.skip ?_ | refine CW.label ?_ | refine CW.exit ?_)
  first | refine CW.condP rfl (fun h3 => ?_) (fun h3 => ?_) | refine CW.cond rfl (fun h3 => ?_) (fun h3 => ?_)
  · cases h3
  repeat (first | refine CW.seq ?_ | refine CW.block ?_ | refine CW.skip ?_ | refine CW.label ?_ | refine CW.exit ?_ | refine CW.condT rfl ?_ | refine CW.condF rfl ?_)
  refine CW.reg ?_
  refine WL.val rfl (run_move) ?_
  refine WL.val rfl (run_nilNil Try.underlying24 rfl rfl) ?_
  refine WL.nil ?_
  repeat (first | refine CW.seq ?_ | refine CW.block ?_ | refine CW.skip ?_ | refine CW.label ?_ | refine CW.exit ?_)
  first | refine CW.condP rfl (fun h4 => ?_) (fun h4 => ?_) | refine CW.cond rfl (fun h4 => ?_) (fun h4 => ?_)
  · repeat (first | refine CW.seq ?_ | refine CW.block ?_ | refine CW.skip ?_ | refine CW.label ?_ | refine CW.exit ?_ | refine CW.condT rfl ?_ | refine CW.condF rfl ?_)
    refine CW.reg ?_
    refine WL.enter rfl (run_call en10 rfl rfl) (head_spec _) ?_
    rintro e w ⟨rfl, hq⟩
    refine ⟨_, rfl, ?_⟩
    replace hs := hs.callE hq
    refine WL.val rfl (run_assign) ?_
    refine WL.val rfl (run_assign) ?_
    refine WL.nil ?_
    repeat (first | refine CW.seq ?_ | refine CW.block ?_ | refine CW.skip ?_ | refine CW.label ?_ | refine CW.exit ?_ | refine CW.condT rfl ?_ | refine CW.condF rfl ?_)
    refine CW.ret ?_
    refine fin_ret2 rfl ?_
    exact ⟨rfl, hs⟩
  · cases h4
end Go.Gx
/-! World2 -/
namespace Go.Gx
open Go.Proofs
set_option linter.unusedVariables false
set_option linter.unusedSimpArgs false
set_option maxRecDepth 100000
attribute [local irreducible] shaL cutD frontL
/-- A step's digest at width k. -/
def Stp.dig (x : Stp) (k : Nat) : List UInt8 := if x.own = true then frontL x.b k else x.d
theorem Stp.dig_len {w : World} {x : Stp} (h : x.Ok w) {k : Nat} (hk : k ≤ 32) : (x.dig k).length = 32 := by
  unfold Stp.dig
  split
  · exact frontL_len hk
  · exact h.hd
theorem wdigest_spec {bw bp br k : Nat} {v : Value} {x : Stp} (w0 : World) (hb : w0.heap[bw]? = some (blk 64 (woC bp br v))) (hk0 : At w0 br 0 [.int .i64 (k : Nat)]) (hx : x.Ok w0) (hbl : x.b.length ≤ 8192) (hk1 : 1 ≤ k) (hk : k ≤ 32) :
    Calls Try.prog 63 #[.pointer (some ⟨bw, 0, none⟩), .agg x.cells.toArray] w0 (Ret0 (.agg (u8s (x.dig k)).toArray) w0) := by
  have hs : Step [] [] w0 w0 := Step.refl w0
  have hat : At w0 bw 0 (woC bp br v) := At.of_blk hb
  have hfl : (u8s (frontL x.b k)).length = 32 := by rw [u8s, List.length_map, frontL_len hk]
  have hdl : (u8s x.d).length = 32 := by rw [u8s, List.length_map, hx.hd]
  have h35 := Stp.get35 hx
  cases ho : x.own with
  | true =>
    have e : x.dig k = frontL x.b k := by unfold Stp.dig; rw [if_pos ho]
    rw [ho] at h35
    rw [e]
    refine calls (n := 19) Try.func63 rfl rfl rfl ?_
    repeat (first | refine CW.seq ?_ | refine CW.block ?_ | refine CW.skip ?_ | refine CW.label ?_ | refine CW.exit ?_ | refine CW.condT rfl ?_ | refine CW.condF rfl ?_)
    refine CW.reg ?_
    refine WL.box (cs := x.cells) rfl rfl rfl hs (fun b3 w hs => ?_)
    refine WL.alloc ty27 rfl hs (fun b4 w hs => ?_)
    refine WL.nil ?_
    repeat (first | refine CW.seq ?_ | refine CW.block ?_ | refine CW.skip ?_ | refine CW.label ?_ | refine CW.exit ?_ | refine CW.condT rfl ?_ | refine CW.condF rfl ?_)
    refine CW.reg ?_
    refine WL.val rfl (run_field (o' := 35) Try.underlying48 rfl ty4 rfl rfl rfl) ?_
    refine WL.val rfl (run_load1 ty4 rfl (hs.c1 h35)) ?_
    refine WL.nil ?_
    repeat (first | refine CW.seq ?_ | refine CW.block ?_ | refine CW.skip ?_ | refine CW.label ?_ | refine CW.exit ?_)
    first | refine CW.condP rfl (fun h => ?_) (fun h => ?_) | refine CW.cond rfl (fun h => ?_) (fun h => ?_)
    · repeat (first | refine CW.seq ?_ | refine CW.block ?_ | refine CW.skip ?_ | refine CW.label ?_ | refine CW.exit ?_ | refine CW.condT rfl ?_ | refine CW.condF rfl ?_)
      refine CW.quietT (l1 := [_, _, _, _, _, _, _, _, _, _]) (l2 := [_]) 10 rfl mixedP rfl (by kernel_rfl) hs ?_
      refine QL.val rfl (fun w hs => run_move) ?_
      refine QL.val rfl (fun w hs => run_nilCheck rfl) ?_
      refine QL.val rfl (fun w hs => run_field (o' := 1) Try.underlying64 rfl ty62 rfl rfl rfl) ?_
      refine QL.val rfl (fun w hs => run_load1 ty62 rfl ((hat.step hs.clear (by simp)).cell (j := 1) rfl)) ?_
      refine QL.val rfl (fun w hs => run_nilCheck rfl) ?_
      refine QL.val rfl (fun w hs => run_field (o' := 0) Try.underlying70 rfl ty3 rfl rfl rfl) ?_
      refine QL.val rfl (fun w hs => run_load1 ty3 rfl ((hk0.step hs.clear (by simp)).cell (j := 0) rfl)) ?_
      refine QL.val rfl (fun w hs => run_field (o' := 1) Try.underlying48 rfl ty22 rfl rfl rfl) ?_
      refine QL.val rfl (fun w hs => run_load1 ty22 rfl (hs.c1 (v := x.vb) rfl)) ?_
      refine QL.enter rfl (fun w => run_call en13 rfl rfl) (fun w hs => ofR_spec _ (hx.hb.step0 hs.clear) (by omega) hk1 hk) ?_
      refine QL.nil (fun w hs => ?_)
      first | refine WL.storeAll ty27 rfl rfl ((hfl)) (Cells1.u8s _) hs (by first | rfl | assumption) (fun w hs => ?_) | refine WL.storeAll_1 ty27 rfl rfl ((hfl)) (Cells1.u8s _) hs (by first | rfl | assumption) (fun w hs => ?_) | refine WL.storeAll_2 ty27 rfl rfl ((hfl)) (Cells1.u8s _) hs (by first | rfl | assumption) (fun w hs => ?_) | refine WL.storeAll_3 ty27 rfl rfl ((hfl)) (Cells1.u8s _) hs (by first | rfl | assumption) (fun w hs => ?_) | refine WL.storeAll_4 ty27 rfl rfl ((hfl)) (Cells1.u8s _) hs (by first | rfl | assumption) (fun w hs => ?_) | refine WL.storeAll ty27 rfl rfl ((hfl)) (Cells1.u8s _) hs (by first | rfl | assumption) (fun w hs => ?_)
      refine WL.nil ?_
      repeat (first | refine CW.seq ?_ | refine CW.block ?_ | refine CW.skip ?_ | refine CW.label ?_ | refine CW.exit ?_ | refine CW.condT rfl ?_ | refine CW.condF rfl ?_)
      refine CW.ret ?_
      first | refine fin_cell1 rfl rfl (run_loadVarN ty27 (by first | rfl | assumption | (simp; done)) hs.a0) ?_ | refine fin_cell1 rfl rfl (run_loadVarN ty27 (by first | rfl | assumption | (simp; done)) hs.a1) ?_ | refine fin_cell1 rfl rfl (run_loadVarN ty27 (by first | rfl | assumption | (simp; done)) hs.a2) ?_ | refine fin_cell1 rfl rfl (run_loadVarN ty27 (by first | rfl | assumption | (simp; done)) hs.a3) ?_ | refine fin_cell1 rfl rfl (run_loadVarN ty27 (by first | rfl | assumption | (simp; done)) hs.a4) ?_ | refine fin_cell1 rfl rfl (run_loadVarN ty27 (by first | rfl | assumption | (simp; done)) hs.a5) ?_
      exact ⟨rfl, hs.clear⟩
    · cases h
  | false =>
    have e : x.dig k = x.d := by unfold Stp.dig; rw [if_neg (by rw [ho]; simp)]
    rw [ho] at h35
    rw [e]
    refine calls (n := 19) Try.func63 rfl rfl rfl ?_
    repeat (first | refine CW.seq ?_ | refine CW.block ?_ | refine CW.skip ?_ | refine CW.label ?_ | refine CW.exit ?_ | refine CW.condT rfl ?_ | refine CW.condF rfl ?_)
    refine CW.reg ?_
    refine WL.box (cs := x.cells) rfl rfl rfl hs (fun b3 w hs => ?_)
    refine WL.alloc ty27 rfl hs (fun b4 w hs => ?_)
    refine WL.nil ?_
    repeat (first | refine CW.seq ?_ | refine CW.block ?_ | refine CW.skip ?_ | refine CW.label ?_ | refine CW.exit ?_ | refine CW.condT rfl ?_ | refine CW.condF rfl ?_)
    refine CW.reg ?_
    refine WL.val rfl (run_field (o' := 35) Try.underlying48 rfl ty4 rfl rfl rfl) ?_
    refine WL.val rfl (run_load1 ty4 rfl (hs.c1 h35)) ?_
    refine WL.nil ?_
    repeat (first | refine CW.seq ?_ | refine CW.block ?_ | refine CW.skip ?_ | refine CW.label ?_ | refine CW.exit ?_)
    first | refine CW.condP rfl (fun h => ?_) (fun h => ?_) | refine CW.cond rfl (fun h => ?_) (fun h => ?_)
    · cases h
    · repeat (first | refine CW.seq ?_ | refine CW.block ?_ | refine CW.skip ?_ | refine CW.label ?_ | refine CW.exit ?_ | refine CW.condT rfl ?_ | refine CW.condF rfl ?_)
      refine CW.reg ?_
      refine WL.val rfl (run_field (o' := 3) Try.underlying48 rfl ty27 rfl rfl rfl) ?_
      refine WL.val rfl (run_loadN ty27 rfl hdl (Stp.atD hx hs.a1)) ?_
      first | refine WL.storeAll ty27 rfl rfl ((hdl)) (Cells1.u8s _) hs (by first | rfl | assumption) (fun w hs => ?_) | refine WL.storeAll_1 ty27 rfl rfl ((hdl)) (Cells1.u8s _) hs (by first | rfl | assumption) (fun w hs => ?_) | refine WL.storeAll_2 ty27 rfl rfl ((hdl)) (Cells1.u8s _) hs (by first | rfl | assumption) (fun w hs => ?_) | refine WL.storeAll_3 ty27 rfl rfl ((hdl)) (Cells1.u8s _) hs (by first | rfl | assumption) (fun w hs => ?_) | refine WL.storeAll_4 ty27 rfl rfl ((hdl)) (Cells1.u8s _) hs (by first | rfl | assumption) (fun w hs => ?_) | refine WL.storeAll ty27 rfl rfl ((hdl)) (Cells1.u8s _) hs (by first | rfl | assumption) (fun w hs => ?_)
      refine WL.nil ?_
      repeat (first | refine CW.seq ?_ | refine CW.block ?_ | refine CW.skip ?_ | refine CW.label ?_ | refine CW.exit ?_ | refine CW.condT rfl ?_ | refine CW.condF rfl ?_)
      refine CW.ret ?_
      first | refine fin_cell1 rfl rfl (run_loadVarN ty27 (by first | rfl | assumption | (simp; done)) hs.a0) ?_ | refine fin_cell1 rfl rfl (run_loadVarN ty27 (by first | rfl | assumption | (simp; done)) hs.a1) ?_ | refine fin_cell1 rfl rfl (run_loadVarN ty27 (by first | rfl | assumption | (simp; done)) hs.a2) ?_ | refine fin_cell1 rfl rfl (run_loadVarN ty27 (by first | rfl | assumption | (simp; done)) hs.a3) ?_ | refine fin_cell1 rfl rfl (run_loadVarN ty27 (by first | rfl | assumption | (simp; done)) hs.a4) ?_ | refine fin_cell1 rfl rfl (run_loadVarN ty27 (by first | rfl | assumption | (simp; done)) hs.a5) ?_
      exact ⟨rfl, hs.clear⟩
end Go.Gx
/-! World3 -/
namespace Go.Gx
open Go.Proofs
set_option linter.unusedVariables false
set_option linter.unusedSimpArgs false
set_option maxRecDepth 100000
attribute [local irreducible] shaL cutD frontL
/-- The memory in which bytes are handed in. -/
def InOk (v : Value) (Lm : List (Nat × Obj)) : Prop := ∃ n xs, OwnSl 5 1 v n xs Lm
/-- Lent bytes: marks behind, more behind. -/
def lentC (y : List UInt8) (more : List Value) : List Value := u8s y ++ (List.replicate 5 (.int .u8 169) ++ more)
def rep (n : Nat) (k : Int) : List Value := List.replicate n (.int .u8 k)
theorem lentC_len (y : List UInt8) (more : List Value) : (lentC y more).length = y.length + 5 + more.length := by
  simp [lentC, u8s]
  omega
theorem lentC_mark {y : List UInt8} {more : List Value} {j : Nat} (h1 : y.length ≤ j) (h2 : j < y.length + 5) : (lentC y more)[j]? = some (.int .u8 169) := by
  have hl : (u8s y).length = y.length := by simp [u8s]
  rw [lentC, List.getElem?_append_right (by rw [hl]; exact h1), hl, List.getElem?_append_left (by simp; omega), List.getElem?_replicate, if_pos (by omega)]
theorem back_spec1 {v : Value} {y : List UInt8} {bI cap : Nat} {more : List Value} (w0 : World) (hb : w0.heap[bI]? = some (blk 5 (lentC y more))) (hcap : y.length + 5 ≤ cap) (hc : (lentC y more).length = cap) (hyl : y.length < 1099511627776) (hv : Sl w0 1 v y.length (u8s y)) :
    Calls Try.prog 67 #[.slice (some ⟨bI, 0, none⟩) y.length cap, v] w0 fun e w' => ∃ xs, e = .returned (.bool true) ∧ xs.length = cap ∧ Step [bI] [(bI, blk 5 xs)] w0 w' := by
  have hs : Step [bI] [(bI, blk 5 (lentC y more))] w0 w0 := Step.start (L := [(bI, blk 5 (lentC y more))]) (by simp) (by intro p hp; simp at hp; subst hp; exact hb)
  have hl8 : (u8s y).length = y.length := by simp [u8s]
  have hsl1 : Sl w0 1 (.slice (some ⟨bI, 0, none⟩) y.length cap) y.length (u8s y) := .mk (by simp [u8s]) (At.of_blk hb).left
  have hsame := fun {w1 u1 u2} h1 h2 => same1_spec (u := u1) (v := u2) (x := y) (y := y) w1 h1 h2 (by omega) (by omega)
  simp only [decide_true] at hsame
  have hobt := hv.form
  obtain ⟨av, cv, rfl⟩ := hobt
  have hm : ∀ {j : Nat}, y.length ≤ j → j < y.length + 5 → (lentC y more)[j]? = some (.int .u8 169) := fun h1 h2 => lentC_mark h1 h2
  have hobt : ∃ C, lentC y more = C := ⟨_, rfl⟩
  obtain ⟨C, hC⟩ := hobt
  rw [hC] at hs hc hm
  refine calls (n := 43) Try.func67 rfl rfl rfl ?_
  refine CW.seq ?_
  refine CW.reg ?_
  refine WL.val rfl (run_assign) ?_
  refine WL.nil ?_
  refine CW.seq ?_
  refine CW.reg ?_
  refine WL.val rfl (run_move) ?_
  refine WL.val rfl (run_move) ?_
  refine WL.enter rfl (run_call en18 rfl rfl) (hsame hsl1 hv) ?_
  rintro e w ⟨rfl, hq⟩
  refine ⟨_, rfl, ?_⟩
  replace hs := hs.callE hq
  refine WL.val rfl (run_assign) ?_
  refine WL.nil ?_
  refine CW.seq ?_
  refine CW.reg ?_
  refine WL.val rfl (run_move) ?_
  refine WL.val rfl (run_move) ?_
  refine WL.val rfl (run_lenSl Try.underlying22 rfl) ?_
  refine WL.val rfl (run_add (c := ((y.length + 5 : Nat) : Int)) rfl rfl (by omega) (by omega)) ?_
  refine WL.val rfl (run_sliceSl0  Try.underlying22 ty5 rfl rfl rfl (by simp) (by omega) (by omega)) ?_
  refine WL.val rfl (run_assign) ?_
  refine WL.nil ?_
  refine CW.seq <| CW.seq ?_
  refine CW.reg ?_
  refine WL.val rfl (run_move) ?_
  refine WL.val rfl (run_lenSl Try.underlying22 rfl) ?_
  refine WL.val rfl (run_assign) ?_
  refine WL.nil ?_
  refine CW.block ?_
  refine CW.loop (fun m f w' => ∃ i, y.length ≤ i ∧ i ≤ y.length + 5 ∧ m = y.length + 5 - i ∧ Step [bI] [(bI, blk 5 C)] w0 w' ∧ Holds f [(0, .slice (some ⟨bI, 0, none⟩) y.length cap), (5, .bool true), (6, .slice (some ⟨bI, 0, none⟩) (y.length + 5) cap), (7, .int .i64 (i : Nat))]) (m := 5) ?_ ?_
  · exact ⟨y.length, Nat.le_refl _, by omega, by omega, hs, rfl, rfl, rfl, rfl, trivial⟩
  · rintro m f w ⟨i, hi0, hi, rfl, hs, hf⟩
    have hobt := hf.chain
    obtain ⟨g, rfl⟩ := hobt
    by_cases hlt : i < y.length + 5
    · refine CW.seq <| CW.seq ?_
      refine CW.reg ?_
      refine WL.val rfl (run_move) ?_
      refine WL.val rfl (run_move) ?_
      refine WL.val rfl (run_lenSl Try.underlying22 rfl) ?_
      refine WL.val rfl (run_bT (run_lss rfl rfl) (by omega)) ?_
      refine WL.nil ?_
      refine CW.cond rfl (fun h => ?_) (fun h => ?_)
      · repeat (first | refine CW.seq ?_ | refine CW.block ?_ | refine CW.skip ?_)
        refine CW.reg ?_
        refine WL.val rfl (run_move) ?_
        refine WL.val rfl (run_move) ?_
        refine WL.yes rfl rfl rfl ?_; refine WL.val rfl (run_move) ?_
        refine WL.yes rfl rfl rfl ?_; refine WL.val rfl (run_move) ?_
        refine WL.yes rfl rfl rfl ?_; (first | refine WL.val rfl (run_ixSlN Try.underlying22 ty5 rfl rfl (by omega)) ?_ | refine WL.val rfl (run_ixSl Try.underlying22 ty5 rfl rfl (by omega)) ?_)
        refine WL.yes rfl rfl rfl ?_
        refine WL.val rfl (run_load1 ty5 rfl (hs.c0 (hm (j := 0 + i * 1) (by omega) (by omega)))) ?_
        refine WL.yes rfl rfl rfl ?_
        refine WL.val rfl (run_bT (run_eql rfl rfl) (by rfl)) ?_
        refine WL.val rfl (run_pickT rfl) ?_
        refine WL.val rfl (run_assign) ?_
        refine WL.nil ?_
        refine CW.reg ?_
        refine WL.val rfl (run_move) ?_
        refine WL.val rfl (run_add (c := ((i + 1 : Nat) : Int)) rfl rfl (by omega) (by omega)) ?_
        refine WL.val rfl (run_assign) ?_
        refine WL.nil ?_
        refine (show _ ∧ _ from ⟨rfl, _, ?_, i + 1, by omega, by omega, rfl, hs, rfl, rfl, rfl, rfl, trivial⟩)
        omega
      · cases h
    · refine CW.seq <| CW.seq ?_
      refine CW.reg ?_
      refine WL.val rfl (run_move) ?_
      refine WL.val rfl (run_move) ?_
      refine WL.val rfl (run_lenSl Try.underlying22 rfl) ?_
      refine WL.val rfl (run_bF (run_lss rfl rfl) (by omega)) ?_
      refine WL.nil ?_
      refine CW.cond rfl (fun h => ?_) (fun h => ?_)
      · cases h
      repeat (first | refine CW.seq ?_ | refine CW.exit ?_)
      refine CW.reg ?_
      refine WL.val rfl (run_assign) ?_
      refine WL.nil ?_
      refine CW.block ?_
      refine CW.loop (fun m f w' => ∃ i cs, i ≤ y.length + 5 ∧ m = y.length + 5 - i ∧ cs.length = cap ∧ Step [bI] [(bI, blk 5 cs)] w0 w' ∧ Holds f [(5, .bool true), (6, .slice (some ⟨bI, 0, none⟩) (y.length + 5) cap), (8, .int .i64 (i : Nat))]) (m := y.length + 5) ?_ ?_
      · exact ⟨0, _, by omega, by omega, hc, hs, rfl, rfl, rfl, trivial⟩
      · rintro m f w ⟨i, cs, hi, rfl, hcs, hs, hf⟩
        have hobt := hf.chain
        obtain ⟨g, rfl⟩ := hobt
        by_cases hlt : i < y.length + 5
        · refine CW.seq <| CW.seq ?_
          refine CW.reg ?_
          refine WL.val rfl (run_move) ?_
          refine WL.val rfl (run_move) ?_
          refine WL.val rfl (run_lenSl Try.underlying22 rfl) ?_
          refine WL.val rfl (run_bT (run_lss rfl rfl) (by omega)) ?_
          refine WL.nil ?_
          refine CW.cond rfl (fun h => ?_) (fun h => ?_)
          · repeat (first | refine CW.seq ?_ | refine CW.block ?_ | refine CW.skip ?_)
            refine CW.reg ?_
            refine WL.val rfl (run_move) ?_
            refine WL.val rfl (run_move) ?_
            refine WL.val rfl (run_ixSlN Try.underlying22 ty5 rfl rfl (by omega)) ?_
            refine WL.store1 ty5 rfl rfl (rfl) hs (by first | (simp; done) | omega | (simp only [List.length_append, List.length_replicate, List.length_cons, List.length_nil, List.length_set]; omega) | (simp [Ent.cells, u8s]; done) | exact Nat.le_of_ble_eq_true rfl) (fun w hs => ?_)
            refine WL.nil ?_
            refine CW.reg ?_
            refine WL.val rfl (run_move) ?_
            refine WL.val rfl (run_add (c := ((i + 1 : Nat) : Int)) rfl rfl (by omega) (by omega)) ?_
            refine WL.val rfl (run_assign) ?_
            refine WL.nil ?_
            refine (show _ ∧ _ from ⟨rfl, _, ?_, i + 1, _, by omega, rfl, ?_, hs, rfl, rfl, rfl, trivial⟩)
            · omega
            · simp [hcs]
          · cases h
        · refine CW.seq <| CW.seq ?_
          refine CW.reg ?_
          refine WL.val rfl (run_move) ?_
          refine WL.val rfl (run_move) ?_
          refine WL.val rfl (run_lenSl Try.underlying22 rfl) ?_
          refine WL.val rfl (run_bF (run_lss rfl rfl) (by omega)) ?_
          refine WL.nil ?_
          refine CW.cond rfl (fun h => ?_) (fun h => ?_)
          · cases h
          repeat (first | refine CW.seq ?_ | refine CW.exit ?_)
          refine CW.reg ?_
          refine WL.val rfl (run_move) ?_
          refine WL.val rfl (run_assign) ?_
          refine WL.nil ?_
          refine CW.ret ?_
          refine fin_ret1 rfl ?_
          exact ⟨cs, rfl, hcs, hs⟩
theorem lent_set {y : List UInt8} {j : Nat} {x m : Value} {more : List Value} : (u8s y ++ (List.replicate j x ++ m :: more)).set (y.length + j) x = u8s y ++ (List.replicate (j + 1) x ++ more) := by
  have hl : (u8s y).length = y.length := by simp [u8s]
  rw [List.set_append_right _ _ (by rw [hl]; omega), hl, show y.length + j - y.length = j by omega, List.set_append_right _ _ (by simp), List.length_replicate, Nat.sub_self, List.set_cons_zero, List.replicate_succ', List.append_assoc]
  rfl
theorem lendW_spec {bw bp br : Nat} {vI v : Value} {Lm : List (Nat × Obj)} {y : List UInt8} (w0 : World) (hI : InOk vI Lm) (hw : Lives ((bw, blk 64 (woC bp br vI)) :: Lm) w0) (hyl : y.length ≤ 8192) (hv : Sl w0 1 v y.length (u8s y)) (hO : OutE v y (bw :: Lm.map (·.1))) :
    Calls Try.prog 64 #[.pointer (some ⟨bw, 0, none⟩), v] w0 fun e w' => ∃ bI cap nI more, e = .returned (.slice (some ⟨bI, 0, none⟩) y.length cap) ∧ y.length + 5 ≤ nI ∧ nI ≤ cap ∧ (lentC y more).length = cap ∧
      Step (bw :: Lm.map (·.1)) [(bI, blk 5 (lentC y more)), (bw, blk 64 (woC bp br (.slice (some ⟨bI, 0, none⟩) nI cap)))] w0 w' := by
  have hs : Step (bw :: Lm.map (·.1)) ((bw, blk 64 (woC bp br vI)) :: Lm) w0 w0 := hw
  have hl8 : (u8s y).length = y.length := by simp [u8s]
  have hobt := hv.form
  obtain ⟨av, cv, rfl⟩ := hobt
  have hobt : ∃ S, bw :: Lm.map (·.1) = S := ⟨_, rfl⟩
  obtain ⟨S, hS⟩ := hobt
  rw [hS] at hs hO ⊢
  obtain ⟨nI, xs, hI⟩ := hI
  have hobt := hI.form
  obtain ⟨aI, cI, rfl⟩ := hobt
  by_cases hlt : nI < y.length + 5
  · refine calls (n := 50) Try.func64 rfl rfl rfl ?_
    refine CW.seq ?_
    refine CW.reg ?_
    refine WL.val rfl (run_assign) ?_
    refine WL.nil ?_
    refine CW.seq <| CW.seq ?_
    refine CW.reg ?_
    refine WL.val rfl (run_move) ?_
    refine WL.val rfl (run_nilCheck rfl) ?_
    refine WL.val rfl (run_field (o' := 2) Try.underlying64 rfl ty22 rfl rfl rfl) ?_
    refine WL.val rfl (run_load1 ty22 rfl (hs.c0 (v := .slice aI nI cI) rfl)) ?_
    refine WL.val rfl (run_lenSl Try.underlying22 rfl) ?_
    refine WL.val rfl (run_move) ?_
    refine WL.val rfl (run_lenSl Try.underlying22 rfl) ?_
    refine WL.val rfl (run_add (c := ((y.length + 5 : Nat) : Int)) rfl rfl (by omega) (by omega)) ?_
    refine WL.val rfl (run_bT (run_lss rfl rfl) (by omega)) ?_
    refine WL.nil ?_
    refine CW.cond rfl (fun h => ?_) (fun h => ?_)
    · skip
      refine CW.reg ?_
      refine WL.val rfl (run_move) ?_
      refine WL.val rfl (run_move) ?_
      refine WL.val rfl (run_lenSl Try.underlying22 rfl) ?_
      refine WL.val rfl (run_mul (c := ((2 * y.length : Nat) : Int)) rfl rfl (by omega) (by omega)) ?_
      refine WL.val rfl (run_add (c := ((2 * y.length + 64 : Nat) : Int)) rfl rfl (by omega) (by omega)) ?_
      refine WL.makeSlice (k := 2 * y.length + 64) Try.underlying22 ty5 rfl (by omega) (by omega) rfl rfl rfl hs (fun b21 w hs => ?_)
      refine WL.val rfl (run_nilCheck rfl) ?_
      refine WL.val rfl (run_field (o' := 2) Try.underlying64 rfl ty22 rfl rfl rfl) ?_
      refine WL.store1_1 ty22 rfl rfl (rfl) hs (by first | (simp; done) | omega | (simp only [List.length_append, List.length_replicate, List.length_cons, List.length_nil, List.length_set]; omega) | (simp [Ent.cells, u8s]; done) | exact Nat.le_of_ble_eq_true rfl) (fun w hs => ?_)
      refine WL.nil ?_
      have hz : ((List.replicate (2 * y.length + 64) [Value.int .u8 0]).flatten).length = 2 * y.length + 64 := by simp
      have hobt : ∃ C, (List.replicate (2 * y.length + 64) [Value.int .u8 0]).flatten = C := ⟨_, rfl⟩
      obtain ⟨C, hC⟩ := hobt
      rw [hC] at hz
      have hobt : ∃ bI, b21 = bI := ⟨_, rfl⟩
      obtain ⟨bI, hbI⟩ := hobt
      have hobt : ∃ nI cI, y.length + 5 ≤ nI ∧ nI ≤ cI ∧ C.length = cI ∧ Step S [(bI, blk 5 C), (bw, blk 64 (woC bp br (.slice (some ⟨bI, 0, none⟩) nI cI)))] w0 w := ⟨2 * y.length + 64, 2 * y.length + 64, by omega, by omega, hz, by rw [← hC, ← hbI]; exact Step.dropR (L1 := [_, _]) hs⟩
      obtain ⟨nI, cI, hn1, hn2, hn3, hs⟩ := hobt
      refine CW.seq ?_
      refine CW.reg ?_
      refine WL.val rfl (run_move) ?_
      refine WL.val rfl (run_nilCheck rfl) ?_
      refine WL.val rfl (run_field (o' := 2) Try.underlying64 rfl ty22 rfl rfl rfl) ?_
      refine WL.val rfl (run_load1 ty22 rfl (hs.c1 (v := .slice (some ⟨bI, 0, none⟩) nI cI) rfl)) ?_
      refine WL.val rfl (run_move) ?_
      refine WL.val rfl (run_lenSl Try.underlying22 rfl) ?_
      refine WL.val rfl (run_add (c := ((y.length + 5 : Nat) : Int)) rfl rfl (by omega) (by omega)) ?_
      refine WL.val rfl (run_sliceSl0  Try.underlying22 ty5 rfl rfl rfl (by simp) (by omega) (by omega)) ?_
      refine WL.val rfl (run_assign) ?_
      refine WL.nil ?_
      refine CW.seq ?_
      refine CW.reg ?_
      refine WL.val rfl (run_move) ?_
      refine WL.val rfl (run_move) ?_
      refine WL.copy Try.underlying22 ty5 rfl rfl (hs) (hv.stepE hs hO) (Cells1.u8s y) (by first | omega | exact Nat.le_of_ble_eq_true rfl | (simp [Ent.cells, u8s]; done)) (fun k hk => by cases hk; rfl) (fun w hs => ⟨fun k hk => ?_, fun h => by cases h⟩)
      cases hk
      refine WL.nil ?_
      rw [Nat.min_eq_left (by omega), Nat.mul_one, ← hl8, List.take_length] at hs
      replace hs : Step S [(bI, blk 5 (u8s y ++ (List.replicate 0 (.int .u8 169) ++ C.drop y.length))), (bw, blk 64 (woC bp br (.slice (some ⟨bI, 0, none⟩) nI cI)))] w0 w := by
        have : splice C 0 (u8s y) = u8s y ++ (List.replicate 0 (.int .u8 169) ++ C.drop y.length) := by simp [splice, hl8]
        rw [← this]; exact hs
      refine CW.seq <| CW.seq ?_
      refine CW.reg ?_
      refine WL.val rfl (run_move) ?_
      refine WL.val rfl (run_lenSl Try.underlying22 rfl) ?_
      refine WL.val rfl (run_assign) ?_
      refine WL.nil ?_
      refine CW.block ?_
      refine CW.loop (fun m f w' => ∃ j more, j ≤ 5 ∧ m = 5 - j ∧ y.length + j + more.length = cI ∧ Step S [(bI, blk 5 (u8s y ++ (List.replicate j (.int .u8 169) ++ more))), (bw, blk 64 (woC bp br (.slice (some ⟨bI, 0, none⟩) nI cI)))] w0 w' ∧ Holds f [(1, .slice av y.length cv), (5, .slice (some ⟨bI, 0, none⟩) (y.length + 5) cI), (6, .int .i64 (y.length + j : Nat))]) (m := 5) ?_ ?_
      · exact ⟨0, _, by omega, rfl, by simp; omega, hs, rfl, rfl, rfl, trivial⟩
      · rintro m f w ⟨j, more, hj, rfl, hm, hs, hf⟩
        have hobt := hf.chain
        obtain ⟨g, rfl⟩ := hobt
        by_cases hlt : j < 5
        · obtain ⟨m1, more', rfl⟩ : ∃ m1 more', more = m1 :: more' := by
            cases more with
            | nil => simp at hm; omega
            | cons a b => exact ⟨_, _, rfl⟩
          rw [List.length_cons] at hm
          refine CW.seq <| CW.seq ?_
          refine CW.reg ?_
          refine WL.val rfl (run_move) ?_
          refine WL.val rfl (run_move) ?_
          refine WL.val rfl (run_lenSl Try.underlying22 rfl) ?_
          refine WL.val rfl (run_bT (run_lss rfl rfl) (by omega)) ?_
          refine WL.nil ?_
          refine CW.cond rfl (fun h => ?_) (fun h => ?_)
          · repeat (first | refine CW.seq ?_ | refine CW.block ?_ | refine CW.skip ?_)
            refine CW.reg ?_
            refine WL.val rfl (run_move) ?_
            refine WL.val rfl (run_move) ?_
            refine WL.val rfl (run_ixSlN Try.underlying22 ty5 rfl rfl (by omega)) ?_
            refine WL.store1 ty5 rfl rfl (rfl) hs (by first | (simp; done) | omega | (simp only [List.length_append, List.length_replicate, List.length_cons, List.length_nil, List.length_set]; omega) | (simp [Ent.cells, u8s]; done) | exact Nat.le_of_ble_eq_true rfl) (fun w hs => ?_)
            refine WL.nil ?_
            replace hs : Step S [(bI, blk 5 (u8s y ++ (List.replicate (j + 1) (.int .u8 169) ++ more'))), (bw, blk 64 (woC bp br (.slice (some ⟨bI, 0, none⟩) nI cI)))] w0 w := by
              rw [← lent_set (m := m1)]
              rw [Nat.zero_add, Nat.mul_one] at hs
              exact hs
            refine CW.reg ?_
            refine WL.val rfl (run_move) ?_
            refine WL.val rfl (run_add (c := ((y.length + (j + 1) : Nat) : Int)) rfl rfl (by omega) (by omega)) ?_
            refine WL.val rfl (run_assign) ?_
            refine WL.nil ?_
            refine (show _ ∧ _ from ⟨rfl, _, ?_, j + 1, more', by omega, rfl, by omega, hs, rfl, rfl, rfl, trivial⟩)
            omega
          · cases h
        · obtain rfl : j = 5 := by omega
          refine CW.seq <| CW.seq ?_
          refine CW.reg ?_
          refine WL.val rfl (run_move) ?_
          refine WL.val rfl (run_move) ?_
          refine WL.val rfl (run_lenSl Try.underlying22 rfl) ?_
          refine WL.val rfl (run_bF (run_lss rfl rfl) (by omega)) ?_
          refine WL.nil ?_
          refine CW.cond rfl (fun h => ?_) (fun h => ?_)
          · cases h
          repeat (first | refine CW.seq ?_ | refine CW.exit ?_)
          refine CW.reg ?_
          refine WL.val rfl (run_move) ?_
          refine WL.val rfl (run_move) ?_
          refine WL.val rfl (run_lenSl Try.underlying22 rfl) ?_
          refine WL.val rfl (run_sliceSl0  Try.underlying22 ty5 rfl rfl rfl (by simp) (by omega) (by omega)) ?_
          refine WL.val rfl (run_assign) ?_
          refine WL.nil ?_
          refine CW.ret ?_
          refine fin_ret1 rfl ?_
          exact ⟨bI, cI, nI, more, rfl, by omega, by omega, by rw [lentC_len]; omega, hs⟩
    · cases h
  · obtain ⟨hxl, ⟨h1, h2, h3⟩ | ⟨bI, cap, more, h1, h2, h3⟩⟩ := hI
    · omega
    · obtain ⟨rfl, rfl⟩ : aI = some ⟨bI, 0, none⟩ ∧ cI = cap := by
        injection h1 with e1 e2 e3
        exact ⟨e1, e3⟩
      subst h2
      have hobt : ∃ C, xs ++ more = C := ⟨_, rfl⟩
      obtain ⟨C, hC⟩ := hobt
      rw [hC] at hs h3
      have hn1 : y.length + 5 ≤ nI := by omega
      have hn2 : nI ≤ cI := by rw [← hC, List.length_append] at h3; omega
      have hn3 : C.length = cI := by omega
      refine calls (n := 50) Try.func64 rfl rfl rfl ?_
      refine CW.seq ?_
      refine CW.reg ?_
      refine WL.val rfl (run_assign) ?_
      refine WL.nil ?_
      refine CW.seq <| CW.seq ?_
      refine CW.reg ?_
      refine WL.val rfl (run_move) ?_
      refine WL.val rfl (run_nilCheck rfl) ?_
      refine WL.val rfl (run_field (o' := 2) Try.underlying64 rfl ty22 rfl rfl rfl) ?_
      refine WL.val rfl (run_load1 ty22 rfl (hs.c0 (v := .slice (some ⟨bI, 0, none⟩) nI cI) rfl)) ?_
      refine WL.val rfl (run_lenSl Try.underlying22 rfl) ?_
      refine WL.val rfl (run_move) ?_
      refine WL.val rfl (run_lenSl Try.underlying22 rfl) ?_
      refine WL.val rfl (run_add (c := ((y.length + 5 : Nat) : Int)) rfl rfl (by omega) (by omega)) ?_
      refine WL.val rfl (run_bF (run_lss rfl rfl) (by omega)) ?_
      refine WL.nil ?_
      refine CW.cond rfl (fun h => ?_) (fun h => ?_)
      · cases h
      replace hs := hs.swap
      repeat (first | refine CW.seq ?_ | refine CW.skip ?_)
      refine CW.reg ?_
      refine WL.val rfl (run_move) ?_
      refine WL.val rfl (run_nilCheck rfl) ?_
      refine WL.val rfl (run_field (o' := 2) Try.underlying64 rfl ty22 rfl rfl rfl) ?_
      refine WL.val rfl (run_load1 ty22 rfl (hs.c1 (v := .slice (some ⟨bI, 0, none⟩) nI cI) rfl)) ?_
      refine WL.val rfl (run_move) ?_
      refine WL.val rfl (run_lenSl Try.underlying22 rfl) ?_
      refine WL.val rfl (run_add (c := ((y.length + 5 : Nat) : Int)) rfl rfl (by omega) (by omega)) ?_
      refine WL.val rfl (run_sliceSl0  Try.underlying22 ty5 rfl rfl rfl (by simp) (by omega) (by omega)) ?_
      refine WL.val rfl (run_assign) ?_
      refine WL.nil ?_
      refine CW.seq ?_
      refine CW.reg ?_
      refine WL.val rfl (run_move) ?_
      refine WL.val rfl (run_move) ?_
      refine WL.copy Try.underlying22 ty5 rfl rfl (hs) (hv.stepE hs hO) (Cells1.u8s y) (by first | omega | exact Nat.le_of_ble_eq_true rfl | (simp [Ent.cells, u8s]; done)) (fun k hk => by cases hk; rfl) (fun w hs => ⟨fun k hk => ?_, fun h => by cases h⟩)
      cases hk
      refine WL.nil ?_
      rw [Nat.min_eq_left (by omega), Nat.mul_one, ← hl8, List.take_length] at hs
      replace hs : Step S [(bI, blk 5 (u8s y ++ (List.replicate 0 (.int .u8 169) ++ C.drop y.length))), (bw, blk 64 (woC bp br (.slice (some ⟨bI, 0, none⟩) nI cI)))] w0 w := by
        have : splice C 0 (u8s y) = u8s y ++ (List.replicate 0 (.int .u8 169) ++ C.drop y.length) := by simp [splice, hl8]
        rw [← this]; exact hs
      refine CW.seq <| CW.seq ?_
      refine CW.reg ?_
      refine WL.val rfl (run_move) ?_
      refine WL.val rfl (run_lenSl Try.underlying22 rfl) ?_
      refine WL.val rfl (run_assign) ?_
      refine WL.nil ?_
      refine CW.block ?_
      refine CW.loop (fun m f w' => ∃ j more, j ≤ 5 ∧ m = 5 - j ∧ y.length + j + more.length = cI ∧ Step S [(bI, blk 5 (u8s y ++ (List.replicate j (.int .u8 169) ++ more))), (bw, blk 64 (woC bp br (.slice (some ⟨bI, 0, none⟩) nI cI)))] w0 w' ∧ Holds f [(1, .slice av y.length cv), (5, .slice (some ⟨bI, 0, none⟩) (y.length + 5) cI), (6, .int .i64 (y.length + j : Nat))]) (m := 5) ?_ ?_
      · exact ⟨0, _, by omega, rfl, by simp; omega, hs, rfl, rfl, rfl, trivial⟩
      · rintro m f w ⟨j, more, hj, rfl, hm, hs, hf⟩
        have hobt := hf.chain
        obtain ⟨g, rfl⟩ := hobt
        by_cases hlt : j < 5
        · obtain ⟨m1, more', rfl⟩ : ∃ m1 more', more = m1 :: more' := by
            cases more with
            | nil => simp at hm; omega
            | cons a b => exact ⟨_, _, rfl⟩
          rw [List.length_cons] at hm
          refine CW.seq <| CW.seq ?_
          refine CW.reg ?_
          refine WL.val rfl (run_move) ?_
          refine WL.val rfl (run_move) ?_
          refine WL.val rfl (run_lenSl Try.underlying22 rfl) ?_
          refine WL.val rfl (run_bT (run_lss rfl rfl) (by omega)) ?_
          refine WL.nil ?_
          refine CW.cond rfl (fun h => ?_) (fun h => ?_)
          · repeat (first | refine CW.seq ?_ | refine CW.block ?_ | refine CW.skip ?_)
            refine CW.reg ?_
            refine WL.val rfl (run_move) ?_
            refine WL.val rfl (run_move) ?_
            refine WL.val rfl (run_ixSlN Try.underlying22 ty5 rfl rfl (by omega)) ?_
            refine WL.store1 ty5 rfl rfl (rfl) hs (by first | (simp; done) | omega | (simp only [List.length_append, List.length_replicate, List.length_cons, List.length_nil, List.length_set]; omega) | (simp [Ent.cells, u8s]; done) | exact Nat.le_of_ble_eq_true rfl) (fun w hs => ?_)
            refine WL.nil ?_
            replace hs : Step S [(bI, blk 5 (u8s y ++ (List.replicate (j + 1) (.int .u8 169) ++ more'))), (bw, blk 64 (woC bp br (.slice (some ⟨bI, 0, none⟩) nI cI)))] w0 w := by
              rw [← lent_set (m := m1)]
              rw [Nat.zero_add, Nat.mul_one] at hs
              exact hs
            refine CW.reg ?_
            refine WL.val rfl (run_move) ?_
            refine WL.val rfl (run_add (c := ((y.length + (j + 1) : Nat) : Int)) rfl rfl (by omega) (by omega)) ?_
            refine WL.val rfl (run_assign) ?_
            refine WL.nil ?_
            refine (show _ ∧ _ from ⟨rfl, _, ?_, j + 1, more', by omega, rfl, by omega, hs, rfl, rfl, rfl, trivial⟩)
            omega
          · cases h
        · obtain rfl : j = 5 := by omega
          refine CW.seq <| CW.seq ?_
          refine CW.reg ?_
          refine WL.val rfl (run_move) ?_
          refine WL.val rfl (run_move) ?_
          refine WL.val rfl (run_lenSl Try.underlying22 rfl) ?_
          refine WL.val rfl (run_bF (run_lss rfl rfl) (by omega)) ?_
          refine WL.nil ?_
          refine CW.cond rfl (fun h => ?_) (fun h => ?_)
          · cases h
          repeat (first | refine CW.seq ?_ | refine CW.exit ?_)
          refine CW.reg ?_
          refine WL.val rfl (run_move) ?_
          refine WL.val rfl (run_move) ?_
          refine WL.val rfl (run_lenSl Try.underlying22 rfl) ?_
          refine WL.val rfl (run_sliceSl0  Try.underlying22 ty5 rfl rfl rfl (by simp) (by omega) (by omega)) ?_
          refine WL.val rfl (run_assign) ?_
          refine WL.nil ?_
          refine CW.ret ?_
          refine fin_ret1 rfl ?_
          exact ⟨bI, cI, nI, more, rfl, by omega, by omega, by rw [lentC_len]; omega, hs⟩
end Go.Gx
/-! World4 -/
namespace Go.Gx
open Go.Proofs
set_option linter.unusedVariables false
set_option linter.unusedSimpArgs false
set_option maxRecDepth 100000
attribute [local irreducible] shaL cutD frontL
section
variable {S : List Nat} {A L L' R R' D D' W X : List (Nat × Obj)} {w0 w w' : World}
theorem Lives.sub {L L2 : List (Nat × Obj)} {w : World} (h : Lives L w) (hs : L2.Sublist L) : Lives L2 w :=
  Step.own (L1 := L2) (L := []) (by
    rw [List.append_nil]
    exact (⟨h.chg, (h.nodup).sublist (hs.map _), fun p hp => h.has p (hs.subset hp), fun p hp => h.new p (hs.subset hp)⟩ : Step (L.map (·.1)) L2 w w))
theorem Own.outA {S : List Nat} {A L D : List (Nat × Obj)} {w0 w : World} (hs : Step S (A ++ (L ++ D)) w0 w) {b : Nat} {o : Obj} (hm : (b, o) ∈ A) : b ∉ L.map (·.1) := fun h => by
  have hn := Step.nodup hs
  rw [List.map_append, List.nodup_append] at hn
  exact hn.2.2 b (List.mem_map.2 ⟨(b, o), hm, rfl⟩) b (by rw [List.map_append]; exact List.mem_append_left _ h) rfl
theorem Two.live (hs : Step S (A ++ (L ++ (R ++ D))) w0 w) : Lives (L ++ D) w := (Own.live hs).sub (by
  exact (List.Sublist.refl L).append (List.sublist_append_right R D))
theorem Two.rlive (hs : Step S (A ++ (L ++ (R ++ D))) w0 w) : Lives (R ++ D) w := Own.live (A := A ++ L) (by rw [List.append_assoc]; exact hs)
theorem Two.put (hs : Step S (A ++ (L ++ (R ++ D))) w0 w) (hq : Step (L.map (·.1)) (L' ++ D') w w') : Step S (A ++ (L' ++ (R ++ (D' ++ D)))) w0 w' := (Own.put hs hq).perm (by
  have h : (D' ++ R).Perm (R ++ D') := List.perm_append_comm
  have h2 := (h.append_right D).append_left (A ++ L')
  simpa [List.append_assoc] using h2)
theorem Two.set (hs : Step S (A ++ (L ++ (R ++ D))) w0 w) (hq : Step (L.map (·.1)) L' w w') : Step S (A ++ (L' ++ (R ++ D))) w0 w' := Own.set hs hq
theorem Two.rput (hs : Step S (A ++ (L ++ (R ++ D))) w0 w) (hq : Step (R.map (·.1)) (R' ++ D') w w') : Step S (A ++ (L ++ (R' ++ (D' ++ D)))) w0 w' := by
  have h := Own.put (A := A ++ L) (L := R) (by rw [List.append_assoc]; exact hs) hq
  rwa [List.append_assoc] at h
theorem Two.rset (hs : Step S (A ++ (L ++ (R ++ D))) w0 w) (hq : Step (R.map (·.1)) R' w w') : Step S (A ++ (L ++ (R' ++ D))) w0 w' := by
  have h := Own.set (A := A ++ L) (L := R) (by rw [List.append_assoc]; exact hs) hq
  rwa [List.append_assoc] at h
/-- Old bytes are in none of the new blocks. -/
theorem OutE.new {v : Value} {y : List UInt8} (hs : Step S X w0 w) (h : Sl w0 1 v y.length (u8s y)) (hO : OutE v y S) (hL : ∀ p ∈ L, p ∈ X) : OutE v y (L.map (·.1)) := by
  rcases hO with hO | hO
  · exact .inl hO
  obtain ⟨hl, ⟨a, c, rfl, h0⟩ | ⟨b, off, c, rfl, hat⟩⟩ := h
  · exact .inl (List.eq_nil_of_length_eq_zero h0)
  · by_cases hy : y = []
    · exact .inl hy
    · refine .inr fun hm => ?_
      have hb := hat.lt (by simpa [u8s] using hy)
      have hobt := List.mem_map.1 hm
      obtain ⟨p, hp, hpe⟩ := hobt
      have hpe' : p.1 = b := hpe
      rcases hs.new p (hL p hp) with h1 | h1
      · exact hO (by rw [← hpe']; exact h1)
      · omega
theorem Step.narrow (hw : Lives (W ++ D) w0) (h : Step ((W ++ D).map (·.1)) (A ++ D) w0 w) : Step (W.map (·.1)) A w0 w := by
  refine ⟨⟨h.chg.os, h.chg.tape, h.chg.output, h.chg.size, fun k hk hn => ?_, h.chg.drawn⟩, (Step.dropR h).nodup, fun p hp => h.has p (by simp [hp]), fun p hp => ?_⟩
  · by_cases hD : k ∈ D.map (·.1)
    · have hobt := List.mem_map.1 hD
      obtain ⟨p, hp, rfl⟩ := hobt
      rw [h.has p (by simp [hp]), hw.has p (by simp [hp])]
    · exact h.chg.block k hk (by rw [List.map_append, List.mem_append]; exact fun h => h.elim hn hD)
  · rcases h.new p (by simp [hp]) with h1 | h1
    · rw [List.map_append, List.mem_append] at h1
      rcases h1 with h1 | h1
      · exact .inl h1
      · have hn := h.nodup
        rw [List.map_append, List.nodup_append] at hn
        exact absurd rfl (hn.2.2 p.1 (List.mem_map_of_mem hp) p.1 h1)
    · exact .inr h1
/-- A World at bw, with its own blocks W and data D, stands for s: both Stores do. -/
def WRep (bw : Nat) (s : AS) (D W : List (Nat × Obj)) : Prop :=
  ∃ bp br vI Lm L R, W = (bw, blk 64 (woC bp br vI)) :: (Lm ++ (L ++ R)) ∧ InOk vI Lm ∧ PRep bp s D L ∧ RRep br s D R
theorem WRep.mono {bw : Nat} {s : AS} (h : WRep bw s D W) (hD : ∀ p ∈ D, p ∈ D') : WRep bw s D' W := by
  obtain ⟨bp, br, vI, Lm, L, R, h1, h2, h3, h4⟩ := h
  exact ⟨bp, br, vI, Lm, L, R, h1, h2, h3.mono hD, h4.mono hD⟩
theorem WRep.start {bw bp br : Nat} {vI : Value} {Lm : List (Nat × Obj)} {T : TypeId} (hw : Lives (((bw, blk T (woC bp br vI)) :: (Lm ++ (L ++ R))) ++ D) w0) : Step ((((bw, blk T (woC bp br vI)) :: (Lm ++ (L ++ R))) ++ D).map (·.1)) ((bw, blk T (woC bp br vI)) :: (Lm ++ (L ++ (R ++ D)))) w0 w0 :=
  Step.perm hw (by rw [List.cons_append, List.append_assoc, List.append_assoc])
theorem WRep.fin {bw bp br : Nat} {vI : Value} {s : AS} {Lm : List (Nat × Obj)} (hw : Lives (W ++ D) w0) (hs : Step ((W ++ D).map (·.1)) ((bw, blk 64 (woC bp br vI)) :: (Lm ++ (L ++ (R ++ (D' ++ D))))) w0 w) (hI : InOk vI Lm) (hR : PRep bp s (D' ++ D) L) (hT : RRep br s (D' ++ D) R) :
    ∃ W' D', WRep bw s (D' ++ D) W' ∧ Step (W.map (·.1)) (W' ++ D') w0 w :=
  ⟨_, D', ⟨bp, br, vI, Lm, L, R, rfl, hI, hR, hT⟩, Step.narrow hw (hs.perm (by simp [List.append_assoc]))⟩
end
theorem Stp.Ok.stepE {S : List Nat} {L : List (Nat × Obj)} {w w' : World} {x : Stp} (h : x.Ok w) (hs : Step S L w w') (hb : OutE x.vb x.b S) (hc : OutE x.vc x.c S) : x.Ok w' :=
  ⟨h.k1, h.k2, h.hb.stepE hs hb, h.rb, h.lb, h.hc.stepE hs hc, h.rc, h.lc, h.hd, h.n1, h.n2⟩
/-- What a step of a script does to a World. -/
abbrev WPost (bw : Nat) (s : AS) (D W : List (Nat × Obj)) (n : Nat) (w0 : World) (e : Ending) (w' : World) : Prop :=
  ∃ s' W' D', e = .returned (.bool true) ∧ WRep bw s' (D' ++ D) W' ∧ s'.Ok ∧ s'.Few (n + 1) ∧ s'.k = s.k ∧ Step (W.map (·.1)) (W' ++ D') w0 w'
theorem put_len (s : AS) (hk : s.k ≤ 32) (y : List UInt8) : (s.put y).1.length = 32 := by
  have hgo : ∀ r : List UInt8 × Nat × AS, r = (match ({ s with puts := s.puts + 1 } : AS).lay (frontL y s.k) y with | some s2 => (frontL y s.k, 0, s2) | none => (zD, 43, { s with puts := s.puts + 1 })) → r.1.length = 32 := by
    intro r hr
    cases hl : ({ s with puts := s.puts + 1 } : AS).lay (frontL y s.k) y with
    | none => rw [hl] at hr; rw [hr]; exact zD_len
    | some s2 => rw [hl] at hr; subst hr; exact frontL_len hk
  unfold AS.put
  simp only
  split
  · exact zD_len
  · split
    · split
      · exact frontL_len hk
      · split
        · exact zD_len
        · exact hgo _ rfl
    · exact hgo _ rfl
theorem plant_k' (s : AS) (d y : List UInt8) : (s.plant d y).2.k = s.k := by
  unfold AS.plant
  split
  · rfl
  · split
    · rfl
    · split
      · rename_i s2 hl
        exact (lay_k hl).trans rfl
      · rfl
theorem RRep.atK {br : Nat} {s : AS} {D R : List (Nat × Obj)} {w : World} (h : RRep br s D R) (hw : Lives (R ++ D) w) : At w br 0 [.int .i64 (s.k : Nat)] := by
  obtain ⟨v, Lv, T, rfl, _⟩ := h
  exact (At.of_blk (hw.has (br, blk 70 (rsC s.k s.cap s.last v s.gets s.puts)) (by simp))).take 1
theorem InOk.mk {bI nI cap : Nat} {xs : List Value} (h1 : nI ≤ cap) (h2 : xs.length = cap) : InOk (.slice (some ⟨bI, 0, none⟩) nI cap) [(bI, blk 5 xs)] :=
  ⟨nI, xs.take nI, by rw [List.length_take]; omega, .inr ⟨bI, cap, xs.drop nI, rfl, by rw [List.take_append_drop], by rw [List.take_append_drop]; omega⟩⟩
end Go.Gx
/-! World5 -/
namespace Go.Gx
open Go.Proofs
set_option linter.unusedVariables false
set_option linter.unusedSimpArgs false
set_option maxRecDepth 100000
attribute [local irreducible] shaL cutD frontL
section
variable {bw : Nat} {s : AS} {D W : List (Nat × Obj)} {n : Nat} {x : Stp} {w0 : World}
set_option maxHeartbeats 4000000 in
theorem wput_spec (hW : WRep bw s D W) (ok : s.Ok) (few : s.Few n) (hn : n < 1099511627775) (hw : Lives (W ++ D) w0) (hx : x.Ok w0) (hOb : OutE x.vb x.b ((W ++ D).map (·.1))) (hOc : OutE x.vc x.c ((W ++ D).map (·.1))) (hbl : x.b.length ≤ 8192) (hcl : x.c.length ≤ 8192) (hk : x.kind = 1 ∨ x.kind = 6 ∨ x.kind = 12) :
    Calls Try.prog 50 #[.pointer (some ⟨bw, 0, none⟩), .agg x.cells.toArray] w0 (WPost bw s D W n w0) := by
  obtain ⟨bp, br, vI, Lm, L, R, rfl, hI, hR, hT⟩ := hW
  have hs := WRep.start hw
  have hobt : ∃ S, (((bw, blk 64 (woC bp br vI)) :: (Lm ++ (L ++ R))) ++ D).map (·.1) = S := ⟨_, rfl⟩
  obtain ⟨S, hS⟩ := hobt
  have hk1 := ok.k1
  have hk2 := ok.k2
  have hx3 := Stp.cells_len hx
  have hx1 := Stp.cells1 hx
  have hdl := Stp.dig_len hx hk2
  have hul : (u8s (x.dig s.k)).length = 32 := by rw [u8s, List.length_map, hdl]
  have hfin := fun {bp br vI s2 Lm2 L2 R2 D2 w} (hs : Step S ((bw, blk 64 (woC bp br vI)) :: (Lm2 ++ (L2 ++ (R2 ++ (D2 ++ D))))) w0 w) h1 h2 h3 => WRep.fin (s := s2) hw (by rw [hS]; exact hs) h1 h2 h3
  rw [hS] at hs hOb hOc
  rcases hk with hk | hk | hk
  · have hobt : ∃ v y, x.vb = v ∧ x.b = y ∧ Sl w0 1 v y.length (u8s y) ∧ OutE v y S ∧ y.length ≤ 8192 := ⟨_, _, rfl, rfl, hx.hb, hOb, hbl⟩
    obtain ⟨v, y, hve, hye, hv, hOv, hyl⟩ := hobt
    refine calls (n := 99) Try.func50 rfl rfl rfl ?_
    refine CW.seq ?_
    refine CW.reg ?_
    refine WL.box (cs := x.cells) rfl rfl rfl hs (fun b3 w hs => ?_)
    refine WL.val rfl (run_assign) ?_
    refine WL.nil ?_
    refine CW.seq ?_
    refine CW.reg ?_
    refine WL.val rfl (run_move) ?_
    refine WL.val rfl (run_loadN ty48 rfl hx3 hs.a0) ?_
    refine WL.enter rfl (run_call en63 rfl rfl) (wdigest_spec _ hs.tail.hd (hT.atK (Two.rlive (A := _ :: _ :: Lm) hs)) (hx.stepE hs hOb hOc) hbl hk1 hk2) ?_
    rintro e w ⟨rfl, hq⟩
    refine ⟨_, rfl, ?_⟩
    replace hs := hs.callE hq
    refine WL.alloc ty27 rfl hs (fun b5 w hs => ?_)
    refine WL.storeAll ty27 rfl rfl ((hul)) (Cells1.u8s _) hs (by first | rfl | assumption) (fun w hs => ?_)
    refine WL.nil ?_
    refine CW.seq ?_
    refine CW.reg ?_
    refine WL.val rfl (run_field (o' := 1) Try.underlying48 rfl ty22 rfl rfl rfl) ?_
    refine WL.val rfl (run_load1 ty22 rfl (hs.c1 (v := v) (by rw [← hve]; rfl))) ?_
    refine WL.val rfl (run_assign) ?_
    refine WL.nil ?_
    refine CW.seq <| CW.seq ?_
    refine CW.reg ?_
    refine WL.val rfl (run_field (o' := 0) Try.underlying48 rfl ty3 rfl rfl rfl) ?_
    refine WL.val rfl (run_load1 ty3 rfl (hs.c1 (v := .int .i64 x.kind) rfl)) ?_
    refine WL.val rfl (run_bF (run_eql rfl rfl) (by omega)) ?_
    refine WL.nil ?_
    refine CW.cond rfl (fun h => ?_) (fun h => ?_)
    · cases h
    have hlo := fun {w p1 p2} (hs : Step S (p1 :: p2 :: (bw, blk 64 (woC bp br vI)) :: (Lm ++ (L ++ (R ++ D)))) w0 w) => OutE.new (L := (bw, blk 64 (woC bp br vI)) :: Lm) hs hv hOv (fun p hp => by
      rcases List.mem_cons.1 hp with rfl | hp
      · simp
      · simp [hp])
    have hlw := fun {w p1 p2} (hs : Step S (p1 :: p2 :: (bw, blk 64 (woC bp br vI)) :: (Lm ++ (L ++ (R ++ D)))) w0 w) => Lives.left (Own.live (A := [p1, p2]) (L := (bw, blk 64 (woC bp br vI)) :: Lm) (D := L ++ (R ++ D)) hs)
    repeat (first | refine CW.seq ?_ | refine CW.skip ?_)
    refine CW.reg ?_
    refine WL.val rfl (run_move) ?_
    refine WL.val rfl (run_move) ?_
    refine WL.enter rfl (run_call en64 rfl rfl) (lendW_spec _ hI (hlw hs) hyl (hv.stepE hs hOv) (hlo hs)) ?_
    rintro e w ⟨bI, cap, nI, more, rfl, hn1, hn2, hn3, hq⟩
    refine ⟨_, rfl, ?_⟩
    replace hs := Own.set (A := [_, _]) (L := (bw, blk 64 (woC bp br vI)) :: Lm) hs hq
    refine WL.val rfl (run_assign) ?_
    refine WL.nil ?_
    replace hs : Step S ((b5, blk 27 (u8s (x.dig s.k))) :: (b3, blk 48 x.cells) :: (bI, blk 5 (lentC y more)) :: (bw, blk 64 (woC bp br (.slice (some ⟨bI, 0, none⟩) nI cap))) :: (L ++ (R ++ D))) w0 w := hs
    have hn1' : y.length + 5 ≤ cap := by omega
    have hmine := fun {w p1 p2 X} (hs : Step S (p1 :: p2 :: (bI, blk 5 (lentC y more)) :: X) w0 w) => Sl.mk (w := w) (sz := 1) (b := bI) (off := 0) (n := y.length) (c := cap) (cs := u8s y) (by simp [u8s]) (At.of_blk hs.tail.tail.hd).left
    have hom := fun {w} (hs : Step S ((b5, blk 27 (u8s (x.dig s.k))) :: (b3, blk 48 x.cells) :: (bI, blk 5 (lentC y more)) :: (bw, blk 64 (woC bp br (.slice (some ⟨bI, 0, none⟩) nI cap))) :: (L ++ (R ++ D))) w0 w) => (Or.inr (Own.outA (A := [_, _, _, _]) (L := L) (D := R ++ D) hs (b := bI) (o := blk 5 (lentC y more)) (by simp)) : OutE (.slice (some ⟨bI, 0, none⟩) y.length cap) y (L.map (·.1)))
    refine CW.seq ?_
    refine CW.reg ?_
    refine WL.val rfl (run_assign) ?_
    refine WL.nil ?_
    refine CW.seq <| CW.seq ?_
    refine CW.reg ?_
    refine WL.val rfl (run_field (o' := 0) Try.underlying48 rfl ty3 rfl rfl rfl) ?_
    refine WL.val rfl (run_load1 ty3 rfl (hs.c1 (v := .int .i64 x.kind) rfl)) ?_
    refine WL.nil ?_
    repeat (first | refine CW.seq ?_ | refine CW.block ?_)
    refine CW.reg ?_
    refine WL.val rfl (run_bT (run_eql rfl rfl) (by exact hk)) ?_
    refine WL.val rfl (run_assign) ?_
    refine WL.nil ?_
    refine CW.cond rfl (fun h => ?_) (fun h => ?_)
    · have hput := fun {w1} hl h1 h3 => put_abs (v := .slice (some ⟨bI, 0, none⟩) y.length cap) (y := y) (w0 := w1) hR ok few (by omega) hl h1 (show y.length ≤ cap by omega) h3 (by omega)
      have hrput := fun {w1 D2} (hT : RRep br s D2 R) hl h1 h3 => rput_abs (v := v) (y := y) (w0 := w1) hT ok few (by omega) hl h1 h3 (by omega)
      have ok2 := ok.put y
      have few2 := few.put y
      have hk3 := put_k s y
      have hp32 := put_len s hk2 y
      have hobt : ∃ s2, (s.put y).2.2 = s2 := ⟨_, rfl⟩
      obtain ⟨s2, hs2⟩ := hobt
      have hobt : ∃ er, (s.put y).2.1 = er := ⟨_, rfl⟩
      obtain ⟨er, her⟩ := hobt
      have hobt : ∃ dg, (s.put y).1 = dg := ⟨_, rfl⟩
      obtain ⟨dg, hdg⟩ := hobt
      rw [hs2] at ok2 few2 hk3
      rw [hdg] at hp32
      simp only [hs2, her, hdg] at hput hrput
      have hpl : (u8s dg).length = 32 := by rw [u8s, List.length_map, hp32]
      refine CW.seq ?_
      refine CW.reg ?_
      refine WL.val rfl (run_move) ?_
      refine WL.val rfl (run_nilCheck rfl) ?_
      refine WL.val rfl (run_field (o' := 0) Try.underlying64 rfl ty24 rfl rfl rfl) ?_
      refine WL.val rfl (run_load1 ty24 rfl (hs.c3 (v := .pointer (some ⟨bp, 0, none⟩)) rfl)) ?_
      refine WL.val rfl (run_move) ?_
      refine WL.enter rfl (run_call en12 rfl rfl) (hput (Two.live (A := [_, _, _, _]) hs) (hmine hs) (hom hs)) ?_
      rintro e w ⟨L2, D2, rfl, hR2, hq⟩
      refine ⟨_, rfl, ?_⟩
      replace hs := Two.put (A := [_, _, _, _]) hs hq
      refine WL.val rfl (run_move) ?_
      refine WL.val rfl (run_extract rfl rfl) ?_
      refine WL.val rfl (run_extract rfl rfl) ?_
      refine WL.alloc ty27 rfl hs (fun b9 w hs => ?_)
      refine WL.storeAll ty27 rfl rfl ((hpl)) (Cells1.u8s _) hs (by first | rfl | assumption) (fun w hs => ?_)
      refine WL.val rfl (run_assign) ?_
      refine WL.nil ?_
      replace hT := hT.mono (D' := D2 ++ D) fun p hp => List.mem_append_right _ hp
      refine CW.seq ?_
      refine CW.reg ?_
      refine WL.val rfl (run_move) ?_
      refine WL.val rfl (run_nilCheck rfl) ?_
      refine WL.val rfl (run_field (o' := 1) Try.underlying64 rfl ty62 rfl rfl rfl) ?_
      refine WL.val rfl (run_load1 ty62 rfl (hs.c4 (v := .pointer (some ⟨br, 0, none⟩)) rfl)) ?_
      refine WL.val rfl (run_move) ?_
      refine WL.enter rfl (run_call en65 rfl rfl) (hrput hT (Two.rlive (A := [_, _, _, _, _]) hs) (hv.stepE hs hOv) (OutE.new (L := R) hs hv hOv fun p hp => by simp [hp])) ?_
      rintro e w ⟨R2, D3, rfl, hT2, hq⟩
      refine ⟨_, rfl, ?_⟩
      replace hs := Two.rput (A := [_, _, _, _, _]) hs hq
      refine WL.val rfl (run_move) ?_
      refine WL.val rfl (run_extract rfl rfl) ?_
      refine WL.val rfl (run_extract rfl rfl) ?_
      refine WL.alloc ty27 rfl hs (fun b11 w hs => ?_)
      refine WL.storeAll ty27 rfl rfl ((hpl)) (Cells1.u8s _) hs (by first | rfl | assumption) (fun w hs => ?_)
      refine WL.val rfl (run_assign) ?_
      refine WL.nil ?_
      replace hR2 := hR2.mono (D' := D3 ++ (D2 ++ D)) fun p hp => List.mem_append_right _ hp
      have hobt : ∃ Dn, D3 ++ (D2 ++ D) = Dn ++ D := ⟨D3 ++ D2, by rw [List.append_assoc]⟩
      obtain ⟨Dn, hDn⟩ := hobt
      rw [hDn] at hs hR2 hT2
      refine CW.reg ?_
      refine WL.val rfl (run_loadN ty27 rfl hpl hs.a1) ?_
      refine WL.val rfl (run_loadN ty27 rfl hpl hs.a0) ?_
      refine WL.val rfl (run_bT (run_eqDig hp32 hp32 rfl rfl) rfl) ?_
      refine WL.val rfl (run_move) ?_
      refine WL.yes rfl rfl rfl ?_; refine WL.val rfl (run_move) ?_
      refine WL.yes rfl rfl rfl ?_; refine WL.val rfl (run_move) ?_
      refine WL.yes rfl rfl rfl ?_
      refine WL.val rfl (run_bT (run_eql rfl rfl) (by rfl)) ?_
      refine WL.val rfl (run_pickT rfl) ?_
      refine WL.val rfl (run_assign) ?_
      refine WL.nil ?_
      refine CW.seq ?_
      refine CW.reg ?_
      refine WL.val rfl (run_move) ?_
      refine WL.val rfl (run_move) ?_
      refine WL.enter rfl (run_call en67 rfl rfl) (back_spec1 _ hs.tail.tail.tail.tail.hd hn1' hn3 (by omega) (hv.stepE hs hOv)) ?_
      rintro e w ⟨xs, rfl, hxl, hq⟩
      refine ⟨_, rfl, ?_⟩
      replace hs := Own.set (A := [_, _, _, _]) (L := [_]) hs hq
      refine WL.val rfl (run_move) ?_
      refine WL.yes rfl rfl rfl ?_; refine WL.val rfl (run_move) ?_
      refine WL.val rfl (run_pickT rfl) ?_
      refine WL.val rfl (run_assign) ?_
      refine WL.nil ?_
      refine CW.ret ?_
      refine fin_ret1 rfl ?_
      have hobt := hfin (Lm2 := [(bI, blk 5 xs)]) (Step.swap hs.tail.tail.tail.tail) (InOk.mk hn2 hxl) hR2 hT2
      obtain ⟨W', D', hW', hs'⟩ := hobt
      exact ⟨s2, W', D', rfl, hW', ok2, few2, hk3, hs'⟩
    · cases h
  · have hobt : ∃ v y, x.vc = v ∧ x.c = y ∧ Sl w0 1 v y.length (u8s y) ∧ OutE v y S ∧ y.length ≤ 8192 := ⟨_, _, rfl, rfl, hx.hc, hOc, hcl⟩
    obtain ⟨v, y, hve, hye, hv, hOv, hyl⟩ := hobt
    refine calls (n := 99) Try.func50 rfl rfl rfl ?_
    refine CW.seq ?_
    refine CW.reg ?_
    refine WL.box (cs := x.cells) rfl rfl rfl hs (fun b3 w hs => ?_)
    refine WL.val rfl (run_assign) ?_
    refine WL.nil ?_
    refine CW.seq ?_
    refine CW.reg ?_
    refine WL.val rfl (run_move) ?_
    refine WL.val rfl (run_loadN ty48 rfl hx3 hs.a0) ?_
    refine WL.enter rfl (run_call en63 rfl rfl) (wdigest_spec _ hs.tail.hd (hT.atK (Two.rlive (A := _ :: _ :: Lm) hs)) (hx.stepE hs hOb hOc) hbl hk1 hk2) ?_
    rintro e w ⟨rfl, hq⟩
    refine ⟨_, rfl, ?_⟩
    replace hs := hs.callE hq
    refine WL.alloc ty27 rfl hs (fun b5 w hs => ?_)
    refine WL.storeAll ty27 rfl rfl ((hul)) (Cells1.u8s _) hs (by first | rfl | assumption) (fun w hs => ?_)
    refine WL.nil ?_
    refine CW.seq ?_
    refine CW.reg ?_
    refine WL.val rfl (run_field (o' := 1) Try.underlying48 rfl ty22 rfl rfl rfl) ?_
    refine WL.val rfl (run_load1 ty22 rfl (hs.c1 (v := x.vb) rfl)) ?_
    refine WL.val rfl (run_assign) ?_
    refine WL.nil ?_
    refine CW.seq <| CW.seq ?_
    refine CW.reg ?_
    refine WL.val rfl (run_field (o' := 0) Try.underlying48 rfl ty3 rfl rfl rfl) ?_
    refine WL.val rfl (run_load1 ty3 rfl (hs.c1 (v := .int .i64 x.kind) rfl)) ?_
    refine WL.val rfl (run_bT (run_eql rfl rfl) (by exact hk)) ?_
    refine WL.nil ?_
    refine CW.cond rfl (fun h => ?_) (fun h => ?_)
    · skip
      refine CW.reg ?_
      refine WL.val rfl (run_field (o' := 2) Try.underlying48 rfl ty22 rfl rfl rfl) ?_
      refine WL.val rfl (run_load1 ty22 rfl (hs.c1 (v := v) (by rw [← hve]; rfl))) ?_
      refine WL.val rfl (run_assign) ?_
      refine WL.nil ?_
      have hlo := fun {w p1 p2} (hs : Step S (p1 :: p2 :: (bw, blk 64 (woC bp br vI)) :: (Lm ++ (L ++ (R ++ D)))) w0 w) => OutE.new (L := (bw, blk 64 (woC bp br vI)) :: Lm) hs hv hOv (fun p hp => by
        rcases List.mem_cons.1 hp with rfl | hp
        · simp
        · simp [hp])
      have hlw := fun {w p1 p2} (hs : Step S (p1 :: p2 :: (bw, blk 64 (woC bp br vI)) :: (Lm ++ (L ++ (R ++ D)))) w0 w) => Lives.left (Own.live (A := [p1, p2]) (L := (bw, blk 64 (woC bp br vI)) :: Lm) (D := L ++ (R ++ D)) hs)
      refine CW.seq ?_
      refine CW.reg ?_
      refine WL.val rfl (run_move) ?_
      refine WL.val rfl (run_move) ?_
      refine WL.enter rfl (run_call en64 rfl rfl) (lendW_spec _ hI (hlw hs) hyl (hv.stepE hs hOv) (hlo hs)) ?_
      rintro e w ⟨bI, cap, nI, more, rfl, hn1, hn2, hn3, hq⟩
      refine ⟨_, rfl, ?_⟩
      replace hs := Own.set (A := [_, _]) (L := (bw, blk 64 (woC bp br vI)) :: Lm) hs hq
      refine WL.val rfl (run_assign) ?_
      refine WL.nil ?_
      replace hs : Step S ((b5, blk 27 (u8s (x.dig s.k))) :: (b3, blk 48 x.cells) :: (bI, blk 5 (lentC y more)) :: (bw, blk 64 (woC bp br (.slice (some ⟨bI, 0, none⟩) nI cap))) :: (L ++ (R ++ D))) w0 w := hs
      have hn1' : y.length + 5 ≤ cap := by omega
      have hmine := fun {w p1 p2 X} (hs : Step S (p1 :: p2 :: (bI, blk 5 (lentC y more)) :: X) w0 w) => Sl.mk (w := w) (sz := 1) (b := bI) (off := 0) (n := y.length) (c := cap) (cs := u8s y) (by simp [u8s]) (At.of_blk hs.tail.tail.hd).left
      have hom := fun {w} (hs : Step S ((b5, blk 27 (u8s (x.dig s.k))) :: (b3, blk 48 x.cells) :: (bI, blk 5 (lentC y more)) :: (bw, blk 64 (woC bp br (.slice (some ⟨bI, 0, none⟩) nI cap))) :: (L ++ (R ++ D))) w0 w) => (Or.inr (Own.outA (A := [_, _, _, _]) (L := L) (D := R ++ D) hs (b := bI) (o := blk 5 (lentC y more)) (by simp)) : OutE (.slice (some ⟨bI, 0, none⟩) y.length cap) y (L.map (·.1)))
      refine CW.seq ?_
      refine CW.reg ?_
      refine WL.val rfl (run_assign) ?_
      refine WL.nil ?_
      refine CW.seq <| CW.seq ?_
      refine CW.reg ?_
      refine WL.val rfl (run_field (o' := 0) Try.underlying48 rfl ty3 rfl rfl rfl) ?_
      refine WL.val rfl (run_load1 ty3 rfl (hs.c1 (v := .int .i64 x.kind) rfl)) ?_
      refine WL.nil ?_
      repeat (first | refine CW.seq ?_ | refine CW.block ?_)
      refine CW.reg ?_
      refine WL.val rfl (run_bF (run_eql rfl rfl) (by omega)) ?_
      refine WL.val rfl (run_assign) ?_
      refine WL.nil ?_
      refine CW.cond rfl (fun h => ?_) (fun h => ?_)
      · cases h
      refine CW.seq ?_
      refine CW.reg ?_
      refine WL.val rfl (run_bT (run_eql rfl rfl) (by exact hk)) ?_
      refine WL.val rfl (run_assign) ?_
      refine WL.nil ?_
      refine CW.cond rfl (fun h => ?_) (fun h => ?_)
      · have hpl := fun {w1} hl h1 h3 => plant_abs (v := .slice (some ⟨bI, 0, none⟩) y.length cap) (y := y) (d := x.dig s.k) (w0 := w1) hR ok few (by omega) hl hdl h1 h3 (by omega)
        have hrpl := fun {w1 D2} (hT : RRep br s D2 R) hl h1 h3 => rplant_abs (v := v) (y := y) (d := x.dig s.k) (w0 := w1) hT ok few (by omega) hl hdl h1 h3 (by omega)
        have ok2 := ok.plant hdl y
        have few2 := few.plant (x.dig s.k) y
        have hk3 := plant_k' s (x.dig s.k) y
        have hobt : ∃ s2, (s.plant (x.dig s.k) y).2 = s2 := ⟨_, rfl⟩
        obtain ⟨s2, hs2⟩ := hobt
        have hobt : ∃ er, (s.plant (x.dig s.k) y).1 = er := ⟨_, rfl⟩
        obtain ⟨er, her⟩ := hobt
        rw [hs2] at ok2 few2 hk3
        simp only [hs2, her] at hpl hrpl
        refine CW.seq ?_
        refine CW.quietT (l1 := [_, _, _, _, _, _]) (l2 := [_, _]) 6 rfl mixedP rfl (by kernel_rfl) hs ?_
        refine QL.val rfl (fun w hs => run_move) ?_
        refine QL.val rfl (fun w hs => run_nilCheck rfl) ?_
        refine QL.val rfl (fun w hs => run_field (o' := 0) Try.underlying64 rfl ty24 rfl rfl rfl) ?_
        refine QL.val rfl (fun w hs => run_load1 ty24 rfl (hs.c3 (v := .pointer (some ⟨bp, 0, none⟩)) rfl)) ?_
        refine QL.val rfl (fun w hs => run_loadN ty27 rfl hul hs.a0) ?_
        refine QL.val rfl (fun w hs => run_move) ?_
        refine QL.nil (fun w hs => ?_)
        refine WL.enter rfl (run_call en15 rfl rfl) (hpl (Two.live (A := [_, _, _, _]) hs) (hmine hs) (hom hs)) ?_
        rintro e w ⟨L2, D2, rfl, hR2, hq⟩
        refine ⟨_, rfl, ?_⟩
        replace hs := Two.put (A := [_, _, _, _]) hs hq
        refine WL.val rfl (run_assign) ?_
        refine WL.nil ?_
        replace hT := hT.mono (D' := D2 ++ D) fun p hp => List.mem_append_right _ hp
        refine CW.any (A := fun w => Step S [(b5, blk 27 (u8s (x.dig s.k))), (b3, blk 48 x.cells), (bI, blk 5 (lentC y more)), (bw, blk 64 (woC bp br (.slice (some ⟨bI, 0, none⟩) nI cap)))] w0 w) (C := fun w => Step S [(b5, blk 27 (u8s (x.dig s.k))), (b3, blk 48 x.cells), (bI, blk 5 (lentC y more)), (bw, blk 64 (woC bp br (.slice (some ⟨bI, 0, none⟩) nI cap)))] w0 w) 7 10 mixedP rfl ?_
        replace hs := hs.drew
        refine AL.valA 0 rfl (by kernel_rfl) rfl (fun w hs => run_move) ?_
        refine AL.valA 1 rfl (by kernel_rfl) rfl (fun w hs => run_move) ?_
        refine AL.valA 2 rfl (by kernel_rfl) rfl (fun w hs => run_nilCheck rfl) ?_
        refine AL.valA 3 rfl (by kernel_rfl) rfl (fun w hs => run_field (o' := 1) Try.underlying64 rfl ty62 rfl rfl rfl) ?_
        refine AL.val 4 rfl (by kernel_rfl) rfl (fun w hs => run_load1 ty62 rfl (hs.c3 (v := .pointer (some ⟨br, 0, none⟩)) rfl)) ?_
        refine AL.val 5 rfl (by kernel_rfl) rfl (fun w hs => run_loadN ty27 rfl hul hs.a0) ?_
        refine AL.val 6 rfl (by kernel_rfl) rfl (fun w hs => run_move) ?_
        refine AL.one 7 (by kernel_rfl) rfl (Step.dropR (L1 := [_, _, _, _]) hs) (Step.dropR (L1 := [_, _, _, _]) hs) ?_
        refine WL.enter rfl (run_call en66 rfl rfl) (hrpl hT (Two.rlive (A := [_, _, _, _]) hs) (hv.stepE hs hOv) (OutE.new (L := R) hs hv hOv fun p hp => by simp [hp])) ?_
        rintro e w ⟨R2, D3, rfl, hT2, hq⟩
        refine ⟨_, rfl, ?_⟩
        replace hs := Two.rput (A := [_, _, _, _]) hs hq
        refine WL.nil ?_
        refine ⟨rfl, ?_⟩
        refine AL.relax (by kernel_rfl) ?_
        refine AL.valA 8 rfl (by kernel_rfl) rfl (fun w hs => run_bT (run_eql rfl rfl) (by rfl)) ?_
        refine AL.valA 9 rfl (by kernel_rfl) rfl (fun w hs => run_assign) ?_
        refine AL.end (by kernel_rfl) (Step.dropR (L1 := [_, _, _, _]) hs) (trivial) ?_
        replace hR2 := hR2.mono (D' := D3 ++ (D2 ++ D)) fun p hp => List.mem_append_right _ hp
        have hobt : ∃ Dn, D3 ++ (D2 ++ D) = Dn ++ D := ⟨D3 ++ D2, by rw [List.append_assoc]⟩
        obtain ⟨Dn, hDn⟩ := hobt
        rw [hDn] at hs hR2 hT2
        refine CW.seq ?_
        refine CW.reg ?_
        refine WL.val rfl (run_move) ?_
        refine WL.val rfl (run_move) ?_
        refine WL.enter rfl (run_call en67 rfl rfl) (back_spec1 _ hs.tail.tail.hd hn1' hn3 (by omega) (hv.stepE hs hOv)) ?_
        rintro e w ⟨xs, rfl, hxl, hq⟩
        refine ⟨_, rfl, ?_⟩
        replace hs := Own.set (A := [_, _]) (L := [_]) hs hq
        refine WL.val rfl (run_move) ?_
        refine WL.yes rfl rfl rfl ?_; refine WL.val rfl (run_move) ?_
        refine WL.val rfl (run_pickT rfl) ?_
        refine WL.val rfl (run_assign) ?_
        refine WL.nil ?_
        refine CW.ret ?_
        refine fin_ret1 rfl ?_
        have hobt := hfin (Lm2 := [(bI, blk 5 xs)]) (Step.swap hs.tail.tail) (InOk.mk hn2 hxl) hR2 hT2
        obtain ⟨W', D', hW', hs'⟩ := hobt
        exact ⟨s2, W', D', rfl, hW', ok2, few2, hk3, hs'⟩
      · cases h
    · cases h
  · have hobt : ∃ v y, x.vb = v ∧ x.b = y ∧ Sl w0 1 v y.length (u8s y) ∧ OutE v y S ∧ y.length ≤ 8192 := ⟨_, _, rfl, rfl, hx.hb, hOb, hbl⟩
    obtain ⟨v, y, hve, hye, hv, hOv, hyl⟩ := hobt
    refine calls (n := 99) Try.func50 rfl rfl rfl ?_
    refine CW.seq ?_
    refine CW.reg ?_
    refine WL.box (cs := x.cells) rfl rfl rfl hs (fun b3 w hs => ?_)
    refine WL.val rfl (run_assign) ?_
    refine WL.nil ?_
    refine CW.seq ?_
    refine CW.reg ?_
    refine WL.val rfl (run_move) ?_
    refine WL.val rfl (run_loadN ty48 rfl hx3 hs.a0) ?_
    refine WL.enter rfl (run_call en63 rfl rfl) (wdigest_spec _ hs.tail.hd (hT.atK (Two.rlive (A := _ :: _ :: Lm) hs)) (hx.stepE hs hOb hOc) hbl hk1 hk2) ?_
    rintro e w ⟨rfl, hq⟩
    refine ⟨_, rfl, ?_⟩
    replace hs := hs.callE hq
    refine WL.alloc ty27 rfl hs (fun b5 w hs => ?_)
    refine WL.storeAll ty27 rfl rfl ((hul)) (Cells1.u8s _) hs (by first | rfl | assumption) (fun w hs => ?_)
    refine WL.nil ?_
    refine CW.seq ?_
    refine CW.reg ?_
    refine WL.val rfl (run_field (o' := 1) Try.underlying48 rfl ty22 rfl rfl rfl) ?_
    refine WL.val rfl (run_load1 ty22 rfl (hs.c1 (v := v) (by rw [← hve]; rfl))) ?_
    refine WL.val rfl (run_assign) ?_
    refine WL.nil ?_
    refine CW.seq <| CW.seq ?_
    refine CW.reg ?_
    refine WL.val rfl (run_field (o' := 0) Try.underlying48 rfl ty3 rfl rfl rfl) ?_
    refine WL.val rfl (run_load1 ty3 rfl (hs.c1 (v := .int .i64 x.kind) rfl)) ?_
    refine WL.val rfl (run_bF (run_eql rfl rfl) (by omega)) ?_
    refine WL.nil ?_
    refine CW.cond rfl (fun h => ?_) (fun h => ?_)
    · cases h
    have hlo := fun {w p1 p2} (hs : Step S (p1 :: p2 :: (bw, blk 64 (woC bp br vI)) :: (Lm ++ (L ++ (R ++ D)))) w0 w) => OutE.new (L := (bw, blk 64 (woC bp br vI)) :: Lm) hs hv hOv (fun p hp => by
      rcases List.mem_cons.1 hp with rfl | hp
      · simp
      · simp [hp])
    have hlw := fun {w p1 p2} (hs : Step S (p1 :: p2 :: (bw, blk 64 (woC bp br vI)) :: (Lm ++ (L ++ (R ++ D)))) w0 w) => Lives.left (Own.live (A := [p1, p2]) (L := (bw, blk 64 (woC bp br vI)) :: Lm) (D := L ++ (R ++ D)) hs)
    repeat (first | refine CW.seq ?_ | refine CW.skip ?_)
    refine CW.reg ?_
    refine WL.val rfl (run_move) ?_
    refine WL.val rfl (run_move) ?_
    refine WL.enter rfl (run_call en64 rfl rfl) (lendW_spec _ hI (hlw hs) hyl (hv.stepE hs hOv) (hlo hs)) ?_
    rintro e w ⟨bI, cap, nI, more, rfl, hn1, hn2, hn3, hq⟩
    refine ⟨_, rfl, ?_⟩
    replace hs := Own.set (A := [_, _]) (L := (bw, blk 64 (woC bp br vI)) :: Lm) hs hq
    refine WL.val rfl (run_assign) ?_
    refine WL.nil ?_
    replace hs : Step S ((b5, blk 27 (u8s (x.dig s.k))) :: (b3, blk 48 x.cells) :: (bI, blk 5 (lentC y more)) :: (bw, blk 64 (woC bp br (.slice (some ⟨bI, 0, none⟩) nI cap))) :: (L ++ (R ++ D))) w0 w := hs
    have hn1' : y.length + 5 ≤ cap := by omega
    have hmine := fun {w p1 p2 X} (hs : Step S (p1 :: p2 :: (bI, blk 5 (lentC y more)) :: X) w0 w) => Sl.mk (w := w) (sz := 1) (b := bI) (off := 0) (n := y.length) (c := cap) (cs := u8s y) (by simp [u8s]) (At.of_blk hs.tail.tail.hd).left
    have hom := fun {w} (hs : Step S ((b5, blk 27 (u8s (x.dig s.k))) :: (b3, blk 48 x.cells) :: (bI, blk 5 (lentC y more)) :: (bw, blk 64 (woC bp br (.slice (some ⟨bI, 0, none⟩) nI cap))) :: (L ++ (R ++ D))) w0 w) => (Or.inr (Own.outA (A := [_, _, _, _]) (L := L) (D := R ++ D) hs (b := bI) (o := blk 5 (lentC y more)) (by simp)) : OutE (.slice (some ⟨bI, 0, none⟩) y.length cap) y (L.map (·.1)))
    refine CW.seq ?_
    refine CW.reg ?_
    refine WL.val rfl (run_assign) ?_
    refine WL.nil ?_
    refine CW.seq <| CW.seq ?_
    refine CW.reg ?_
    refine WL.val rfl (run_field (o' := 0) Try.underlying48 rfl ty3 rfl rfl rfl) ?_
    refine WL.val rfl (run_load1 ty3 rfl (hs.c1 (v := .int .i64 x.kind) rfl)) ?_
    refine WL.nil ?_
    repeat (first | refine CW.seq ?_ | refine CW.block ?_)
    refine CW.reg ?_
    refine WL.val rfl (run_bF (run_eql rfl rfl) (by omega)) ?_
    refine WL.val rfl (run_assign) ?_
    refine WL.nil ?_
    refine CW.cond rfl (fun h => ?_) (fun h => ?_)
    · cases h
    refine CW.seq ?_
    refine CW.reg ?_
    refine WL.val rfl (run_bF (run_eql rfl rfl) (by omega)) ?_
    refine WL.val rfl (run_assign) ?_
    refine WL.nil ?_
    refine CW.cond rfl (fun h => ?_) (fun h => ?_)
    · cases h
    refine CW.seq ?_
    refine CW.reg ?_
    refine WL.val rfl (run_bT (run_eql rfl rfl) (by exact hk)) ?_
    refine WL.val rfl (run_assign) ?_
    refine WL.nil ?_
    refine CW.cond rfl (fun h => ?_) (fun h => ?_)
    · have hf32 : (frontL y s.k).length = 32 := frontL_len hk2
      refine CW.quiet mixedP (by kernel_rfl) hs ?_
      refine QL.val rfl (fun w hs => run_move) ?_
      refine QL.val rfl (fun w hs => run_nilCheck rfl) ?_
      refine QL.val rfl (fun w hs => run_field (o' := 0) Try.underlying64 rfl ty24 rfl rfl rfl) ?_
      refine QL.val rfl (fun w hs => run_load1 ty24 rfl (hs.c3 (v := .pointer (some ⟨bp, 0, none⟩)) rfl)) ?_
      refine QL.val rfl (fun w hs => run_move) ?_
      refine QL.enter rfl (fun w => run_call en25 rfl rfl) (fun w hs => digest_abs hR ok (Two.live (A := [_, _, _, _]) hs) (hmine hs) (show y.length ≤ cap by omega) (by omega)) ?_
      refine QL.val rfl (fun w hs => run_move) ?_
      refine QL.val rfl (fun w hs => run_nilCheck rfl) ?_
      refine QL.val rfl (fun w hs => run_field (o' := 1) Try.underlying64 rfl ty62 rfl rfl rfl) ?_
      refine QL.val rfl (fun w hs => run_load1 ty62 rfl (hs.c3 (v := .pointer (some ⟨br, 0, none⟩)) rfl)) ?_
      refine QL.val rfl (fun w hs => run_nilCheck rfl) ?_
      refine QL.val rfl (fun w hs => run_field (o' := 0) Try.underlying70 rfl ty3 rfl rfl rfl) ?_
      refine QL.val rfl (fun w hs => run_load1 ty3 rfl ((hT.atK (Two.rlive (A := [_, _, _, _]) hs)).cell (j := 0) rfl)) ?_
      refine QL.val rfl (fun w hs => run_move) ?_
      refine QL.enter rfl (fun w => run_call en13 rfl rfl) (fun w hs => ofR_spec _ (hv.stepE hs hOv) (by omega) hk1 hk2) ?_
      refine QL.val rfl (fun w hs => run_bT (run_eqDig hf32 hf32 rfl rfl) rfl) ?_
      refine QL.val rfl (fun w hs => run_assign) ?_
      refine QL.nil (fun w hs => ?_)
      refine CW.seq ?_
      refine CW.reg ?_
      refine WL.val rfl (run_move) ?_
      refine WL.val rfl (run_move) ?_
      refine WL.enter rfl (run_call en67 rfl rfl) (back_spec1 _ hs.tail.tail.hd hn1' hn3 (by omega) (hv.stepE hs hOv)) ?_
      rintro e w ⟨xs, rfl, hxl, hq⟩
      refine ⟨_, rfl, ?_⟩
      replace hs := Own.set (A := [_, _]) (L := [_]) hs hq
      refine WL.val rfl (run_move) ?_
      refine WL.yes rfl rfl rfl ?_; refine WL.val rfl (run_move) ?_
      refine WL.val rfl (run_pickT rfl) ?_
      refine WL.val rfl (run_assign) ?_
      refine WL.nil ?_
      refine CW.ret ?_
      refine fin_ret1 rfl ?_
      have hobt := hfin (D2 := []) (Lm2 := [(bI, blk 5 xs)]) (Step.swap hs.tail.tail) (InOk.mk hn2 hxl) hR hT
      obtain ⟨W', D', hW', hs'⟩ := hobt
      exact ⟨s, W', D', rfl, hW', ok, few.mono (Nat.le_succ _), rfl, hs'⟩
    · cases h
end
end Go.Gx
/-! World6 -/
namespace Go.Gx
open Go.Proofs
set_option linter.unusedVariables false
set_option linter.unusedSimpArgs false
set_option maxRecDepth 100000
attribute [local irreducible] shaL cutD frontL
section
variable {br : Nat} {s : AS} {D R : List (Nat × Obj)} {d : List UInt8} {w0 : World}
theorem rraw_abs (hT : RRep br s D R) (ok : s.Ok) (hw : Lives (R ++ D) w0) (hd : d.length = 32) : Calls Try.prog 69 #[.pointer (some ⟨br, 0, none⟩), .agg (u8s d).toArray] w0 fun e w' => ∃ v' Lv', e = .returned (.tuple #[v', .bool (s.has d)]) ∧ OwnSl 5 1 v' (s.raw d).length (u8s (s.raw d)) Lv' ∧ Step [] Lv' w0 w' := by
  have hobt := hT.open ok hw
  obtain ⟨a, c, Lv, T, o⟩ := hobt
  exact rraw_spec o ok hd
theorem rwhole_abs (hT : RRep br s D R) (ok : s.Ok) (hw : Lives (R ++ D) w0) (hd : d.length = 32) : Calls Try.prog 70 #[.pointer (some ⟨br, 0, none⟩), .agg (u8s d).toArray] w0 (Ret0 (.bool (s.whole d)) w0) := by
  have hobt := hT.open ok hw
  obtain ⟨a, c, Lv, T, o⟩ := hobt
  exact rwhole_spec o ok hd
theorem rstamp_abs (hT : RRep br s D R) (ok : s.Ok) (hw : Lives (R ++ D) w0) (hd : d.length = 32) : Calls Try.prog 71 #[.pointer (some ⟨br, 0, none⟩), .agg (u8s d).toArray] w0 (Ret0 (.int .i64 (s.stamp d : Nat)) w0) := by
  have hobt := hT.open ok hw
  obtain ⟨a, c, Lv, T, o⟩ := hobt
  exact rstamp_spec o ok hd
theorem rused_abs (hT : RRep br s D R) (ok : s.Ok) (hw : Lives (R ++ D) w0) : Calls Try.prog 53 #[.pointer (some ⟨br, 0, none⟩)] w0 (Ret0 (.int .i64 (usedX s.X : Nat)) w0) := by
  have hobt := hT.open ok hw
  obtain ⟨a, c, Lv, T, o⟩ := hobt
  exact rused_spec o ok
end
section
variable {S : List Nat} {A L L' R R' D D' W X Lv : List (Nat × Obj)} {w0 w w' : World}
theorem Two.keep (hs : Step S (A ++ (L ++ (R ++ D))) w0 w) (hq : Step [] Lv w w') : Step S (A ++ (L ++ (R ++ (Lv ++ D)))) w0 w' := by
  have h := Own.keep (A := A ++ L) (L := R) (by rw [List.append_assoc]; exact hs) hq
  rwa [List.append_assoc] at h
end
theorem AS.get_short {s : AS} (ok : s.Ok) (d : List UInt8) : (s.get d).1.length < 1099511627776 := by
  unfold AS.get
  cases hf : findX d s.X with
  | none => simp
  | some b =>
    have := used_small ok hf
    simp only
    split
    · exact this
    · simp
theorem AS.raw_short {s : AS} (ok : s.Ok) (d : List UInt8) : (s.raw d).length < 1099511627776 := by
  unfold AS.raw
  cases hf : findX d s.X with
  | none => simp
  | some b => exact used_small ok hf
section
variable {bw : Nat} {s : AS} {D W : List (Nat × Obj)} {n : Nat} {x : Stp} {w0 : World}
set_option maxHeartbeats 4000000 in
theorem wasked_spec (hW : WRep bw s D W) (ok : s.Ok) (few : s.Few n) (hn : n < 1099511627775) (hw : Lives (W ++ D) w0) (hx : x.Ok w0) (hOb : OutE x.vb x.b ((W ++ D).map (·.1))) (hOc : OutE x.vc x.c ((W ++ D).map (·.1))) (hbl : x.b.length ≤ 8192) :
    Calls Try.prog 51 #[.pointer (some ⟨bw, 0, none⟩), .agg x.cells.toArray] w0 (WPost bw s D W n w0) := by
  obtain ⟨bp, br, vI, Lm, L, R, rfl, hI, hR, hT⟩ := hW
  have hs := WRep.start hw
  have hobt : ∃ S, (((bw, blk 64 (woC bp br vI)) :: (Lm ++ (L ++ R))) ++ D).map (·.1) = S := ⟨_, rfl⟩
  obtain ⟨S, hS⟩ := hobt
  have hk1 := ok.k1
  have hk2 := ok.k2
  have hx3 := Stp.cells_len hx
  have hx1 := Stp.cells1 hx
  have hdl := Stp.dig_len hx hk2
  have hul : (u8s (x.dig s.k)).length = 32 := by rw [u8s, List.length_map, hdl]
  have hfin := fun {bp br vI s2 Lm2 L2 R2 D2 w} (hs : Step S ((bw, blk 64 (woC bp br vI)) :: (Lm2 ++ (L2 ++ (R2 ++ (D2 ++ D))))) w0 w) h1 h2 h3 => WRep.fin (s := s2) hw (by rw [hS]; exact hs) h1 h2 h3
  rw [hS] at hs hOb hOc
  refine calls (n := 128) Try.func51 rfl rfl rfl ?_
  refine CW.seq ?_
  refine CW.reg ?_
  refine WL.box (cs := x.cells) rfl rfl rfl hs (fun b3 w hs => ?_)
  refine WL.val rfl (run_assign) ?_
  refine WL.nil ?_
  refine CW.seq ?_
  refine CW.reg ?_
  refine WL.val rfl (run_move) ?_
  refine WL.val rfl (run_loadN ty48 rfl hx3 hs.a0) ?_
  refine WL.enter rfl (run_call en63 rfl rfl) (wdigest_spec _ hs.tail.hd (hT.atK (Two.rlive (A := _ :: _ :: Lm) hs)) (hx.stepE hs hOb hOc) hbl hk1 hk2) ?_
  rintro e w ⟨rfl, hq⟩
  refine ⟨_, rfl, ?_⟩
  replace hs := hs.callE hq
  refine WL.alloc ty27 rfl hs (fun b5 w hs => ?_)
  refine WL.storeAll ty27 rfl rfl ((hul)) (Cells1.u8s _) hs (by first | rfl | assumption) (fun w hs => ?_)
  refine WL.nil ?_
  have hobt : ∃ dd, x.dig s.k = dd := ⟨_, rfl⟩
  obtain ⟨dd, hdd⟩ := hobt
  rw [hdd] at hs hdl hul
  refine CW.seq <| CW.seq ?_
  refine CW.reg ?_
  refine WL.val rfl (run_field (o' := 0) Try.underlying48 rfl ty3 rfl rfl rfl) ?_
  refine WL.val rfl (run_load1 ty3 rfl (hs.c1 (v := .int .i64 x.kind) rfl)) ?_
  refine WL.nil ?_
  by_cases k2 : x.kind = 2
  · repeat (first | refine CW.seq ?_ | refine CW.block ?_)
    refine CW.reg ?_
    refine WL.val rfl (run_bT (run_eql rfl rfl) (by exact k2)) ?_
    refine WL.val rfl (run_assign) ?_
    refine WL.nil ?_
    refine CW.cond rfl (fun h => ?_) (fun h => ?_)
    · have hge := fun {w1} hl => get_abs (d := dd) (w0 := w1) hR ok few (by omega) hl hdl
      have hrge := fun {w1 D2} (hT : RRep br s D2 R) hl => rget_abs (d := dd) (w0 := w1) hT ok few (by omega) hl hdl
      have ok2 := ok.got
      have few2 := few.got
      have hgl := AS.get_short ok dd
      have hobt : ∃ s2, s.got = s2 := ⟨_, rfl⟩
      obtain ⟨s2, hs2⟩ := hobt
      have hobt : ∃ gx, (s.get dd).1 = gx := ⟨_, rfl⟩
      obtain ⟨gx, hgx⟩ := hobt
      have hobt : ∃ er, (s.get dd).2 = er := ⟨_, rfl⟩
      obtain ⟨er, her⟩ := hobt
      have hk3 : s2.k = s.k := by rw [← hs2]; rfl
      rw [hs2] at ok2 few2
      rw [hgx] at hgl
      simp only [hs2, hgx, her] at hge hrge
      have hsame := fun {w1 u1 u2} h1 h2 => same1_spec (u := u1) (v := u2) (x := gx) (y := gx) w1 h1 h2 hgl hgl
      simp only [decide_true] at hsame
      refine CW.seq ?_
      refine CW.any (A := fun w => Step S [(b5, blk 27 (u8s dd)), (b3, blk 48 x.cells), (bw, blk 64 (woC bp br vI))] w0 w) (C := fun w => Step S [(b5, blk 27 (u8s dd)), (b3, blk 48 x.cells), (bw, blk 64 (woC bp br vI))] w0 w) 5 11 mixedP rfl ?_
      replace hs := hs.drew
      refine AL.valA 0 rfl (by kernel_rfl) rfl (fun w hs => run_move) ?_
      refine AL.valA 1 rfl (by kernel_rfl) rfl (fun w hs => run_nilCheck rfl) ?_
      refine AL.valA 2 rfl (by kernel_rfl) rfl (fun w hs => run_field (o' := 0) Try.underlying64 rfl ty24 rfl rfl rfl) ?_
      refine AL.val 3 rfl (by kernel_rfl) rfl (fun w hs => run_load1 ty24 rfl (hs.c2 (v := .pointer (some ⟨bp, 0, none⟩)) rfl)) ?_
      refine AL.val 4 rfl (by kernel_rfl) rfl (fun w hs => run_loadN ty27 rfl hul hs.a0) ?_
      refine AL.one 5 (by kernel_rfl) rfl (Step.dropR (L1 := [_, _, _]) hs) (Step.dropR (L1 := [_, _, _]) hs) ?_
      refine WL.enter rfl (run_call en19 rfl rfl) (hge (Two.live (A := _ :: _ :: _ :: Lm) hs)) ?_
      rintro e w ⟨v1, Lv1, L2, rfl, hu1, hR2, hq⟩
      refine ⟨_, rfl, ?_⟩
      replace hs := Two.put (A := _ :: _ :: _ :: Lm) hs hq
      refine WL.nil ?_
      refine ⟨rfl, ?_⟩
      refine AL.relax (by kernel_rfl) ?_
      refine AL.valA 6 rfl (by kernel_rfl) rfl (fun w hs => run_move) ?_
      refine AL.valA 7 rfl (by kernel_rfl) rfl (fun w hs => run_extract rfl rfl) ?_
      refine AL.valA 8 rfl (by kernel_rfl) rfl (fun w hs => run_extract rfl rfl) ?_
      refine AL.valA 9 rfl (by kernel_rfl) rfl (fun w hs => run_assign) ?_
      refine AL.valA 10 rfl (by kernel_rfl) rfl (fun w hs => run_assign) ?_
      refine AL.end (by kernel_rfl) (Step.dropR (L1 := [_, _, _]) hs) (trivial) ?_
      replace hT := hT.mono (D' := Lv1 ++ D) fun p hp => List.mem_append_right _ hp
      refine CW.seq ?_
      refine CW.any (A := fun w => Step S [(b5, blk 27 (u8s dd)), (b3, blk 48 x.cells), (bw, blk 64 (woC bp br vI))] w0 w) (C := fun w => Step S [(b5, blk 27 (u8s dd)), (b3, blk 48 x.cells), (bw, blk 64 (woC bp br vI))] w0 w) 5 11 mixedP rfl ?_
      replace hs := hs.drew
      refine AL.valA 0 rfl (by kernel_rfl) rfl (fun w hs => run_move) ?_
      refine AL.valA 1 rfl (by kernel_rfl) rfl (fun w hs => run_nilCheck rfl) ?_
      refine AL.valA 2 rfl (by kernel_rfl) rfl (fun w hs => run_field (o' := 1) Try.underlying64 rfl ty62 rfl rfl rfl) ?_
      refine AL.val 3 rfl (by kernel_rfl) rfl (fun w hs => run_load1 ty62 rfl (hs.c2 (v := .pointer (some ⟨br, 0, none⟩)) rfl)) ?_
      refine AL.val 4 rfl (by kernel_rfl) rfl (fun w hs => run_loadN ty27 rfl hul hs.a0) ?_
      refine AL.one 5 (by kernel_rfl) rfl (Step.dropR (L1 := [_, _, _]) hs) (Step.dropR (L1 := [_, _, _]) hs) ?_
      refine WL.enter rfl (run_call en68 rfl rfl) (hrge hT (Two.rlive (A := _ :: _ :: _ :: Lm) hs)) ?_
      rintro e w ⟨v2, Lv2, R2, rfl, hu2, hT2, hq⟩
      refine ⟨_, rfl, ?_⟩
      replace hs := Two.rput (A := _ :: _ :: _ :: Lm) hs hq
      refine WL.nil ?_
      refine ⟨rfl, ?_⟩
      refine AL.relax (by kernel_rfl) ?_
      refine AL.valA 6 rfl (by kernel_rfl) rfl (fun w hs => run_move) ?_
      refine AL.valA 7 rfl (by kernel_rfl) rfl (fun w hs => run_extract rfl rfl) ?_
      refine AL.valA 8 rfl (by kernel_rfl) rfl (fun w hs => run_extract rfl rfl) ?_
      refine AL.valA 9 rfl (by kernel_rfl) rfl (fun w hs => run_assign) ?_
      refine AL.valA 10 rfl (by kernel_rfl) rfl (fun w hs => run_assign) ?_
      refine AL.end (by kernel_rfl) (Step.dropR (L1 := [_, _, _]) hs) (trivial) ?_
      have g1 : Held Lv1 v1 gx := ⟨Lv1, hu1, fun p hp => hp⟩
      have g2 : Held Lv2 v2 gx := ⟨Lv2, hu2, fun p hp => hp⟩
      refine CW.seq ?_
      refine CW.reg ?_
      refine WL.val rfl (run_move) ?_
      refine WL.val rfl (run_move) ?_
      refine WL.val rfl (run_bT (run_eql rfl rfl) (by rfl)) ?_
      refine WL.val rfl (run_move) ?_
      refine WL.yes rfl rfl rfl ?_; refine WL.val rfl (run_move) ?_
      refine WL.yes rfl rfl rfl ?_; refine WL.val rfl (run_move) ?_
      refine WL.yes rfl rfl rfl ?_
      refine WL.enter rfl (run_call en18 rfl rfl) (hsame (g1.sl fun p hp => hs.has p (by simp [hp])) (g2.sl fun p hp => hs.has p (by simp [hp]))) ?_
      rintro e w ⟨rfl, hq⟩
      refine ⟨_, rfl, ?_⟩
      replace hs := hs.callE hq
      refine WL.val rfl (run_pickT rfl) ?_
      refine WL.val rfl (run_assign) ?_
      refine WL.nil ?_
      refine CW.ret ?_
      refine fin_ret1 rfl ?_
      have hobt : ∃ Dn, Lv2 ++ (Lv1 ++ D) = Dn ++ D := ⟨Lv2 ++ Lv1, by rw [List.append_assoc]⟩
      obtain ⟨Dn, hDn⟩ := hobt
      replace hR2 := hR2.mono (D' := Lv2 ++ (Lv1 ++ D)) fun p hp => List.mem_append_right _ (List.mem_append_right _ hp)
      replace hT2 := hT2.mono (D' := Lv2 ++ (Lv1 ++ D)) fun p hp => List.mem_append_right _ hp
      rw [hDn] at hs hR2 hT2
      have hobt := hfin hs.tail.tail hI hR2 hT2
      obtain ⟨W', D', hW', hs'⟩ := hobt
      exact ⟨s2, W', D', rfl, hW', ok2, few2, hk3, hs'⟩
    · cases h
  · repeat (first | refine CW.seq ?_ | refine CW.block ?_)
    refine CW.reg ?_
    refine WL.val rfl (run_bF (run_eql rfl rfl) (by exact k2)) ?_
    refine WL.val rfl (run_assign) ?_
    refine WL.nil ?_
    refine CW.cond rfl (fun h => ?_) (fun h => ?_)
    · cases h
    by_cases k3 : x.kind = 3
    · refine CW.seq ?_
      refine CW.reg ?_
      refine WL.val rfl (run_bT (run_eql rfl rfl) (by exact k3)) ?_
      refine WL.val rfl (run_assign) ?_
      refine WL.nil ?_
      refine CW.cond rfl (fun h => ?_) (fun h => ?_)
      · have hra := fun {w1} hl => raw_abs (d := dd) (w0 := w1) hR ok hl hdl
        have hrra := fun {w1 D2} (hT : RRep br s D2 R) hl => rraw_abs (d := dd) (w0 := w1) hT ok hl hdl
        have hha := fun {w1} hl => has_abs (d := dd) (w0 := w1) hR ok hl hdl
        have hwh := fun {w1} hl => whole_abs (d := dd) (w0 := w1) hR ok hl hdl
        have hgl := AS.raw_short ok dd
        have hobt : ∃ gx, s.raw dd = gx := ⟨_, rfl⟩
        obtain ⟨gx, hgx⟩ := hobt
        have hobt : ∃ ha, s.has dd = ha := ⟨_, rfl⟩
        obtain ⟨ha, hha2⟩ := hobt
        rw [hgx] at hgl
        simp only [hgx, hha2] at hra hrra hha
        have hsame := fun {w1 u1 u2} h1 h2 => same1_spec (u := u1) (v := u2) (x := gx) (y := gx) w1 h1 h2 hgl hgl
        simp only [decide_true] at hsame
        refine CW.seq ?_
        refine CW.any (A := fun w => Step S [(b5, blk 27 (u8s dd)), (b3, blk 48 x.cells), (bw, blk 64 (woC bp br vI))] w0 w) (C := fun w => Step S [(b5, blk 27 (u8s dd)), (b3, blk 48 x.cells), (bw, blk 64 (woC bp br vI))] w0 w) 5 11 mixedP rfl ?_
        replace hs := hs.drew
        refine AL.valA 0 rfl (by kernel_rfl) rfl (fun w hs => run_move) ?_
        refine AL.valA 1 rfl (by kernel_rfl) rfl (fun w hs => run_nilCheck rfl) ?_
        refine AL.valA 2 rfl (by kernel_rfl) rfl (fun w hs => run_field (o' := 0) Try.underlying64 rfl ty24 rfl rfl rfl) ?_
        refine AL.val 3 rfl (by kernel_rfl) rfl (fun w hs => run_load1 ty24 rfl (hs.c2 (v := .pointer (some ⟨bp, 0, none⟩)) rfl)) ?_
        refine AL.val 4 rfl (by kernel_rfl) rfl (fun w hs => run_loadN ty27 rfl hul hs.a0) ?_
        refine AL.one 5 (by kernel_rfl) rfl (Step.dropR (L1 := [_, _, _]) hs) (Step.dropR (L1 := [_, _, _]) hs) ?_
        refine WL.enter rfl (run_call en17 rfl rfl) (hra (Two.live (A := _ :: _ :: _ :: Lm) hs)) ?_
        rintro e w ⟨v1, Lv1, rfl, hu1, hq⟩
        refine ⟨_, rfl, ?_⟩
        replace hs := Two.keep (A := _ :: _ :: _ :: Lm) hs hq
        refine WL.nil ?_
        refine ⟨rfl, ?_⟩
        refine AL.relax (by kernel_rfl) ?_
        refine AL.valA 6 rfl (by kernel_rfl) rfl (fun w hs => run_move) ?_
        refine AL.valA 7 rfl (by kernel_rfl) rfl (fun w hs => run_extract rfl rfl) ?_
        refine AL.valA 8 rfl (by kernel_rfl) rfl (fun w hs => run_extract rfl rfl) ?_
        refine AL.valA 9 rfl (by kernel_rfl) rfl (fun w hs => run_assign) ?_
        refine AL.valA 10 rfl (by kernel_rfl) rfl (fun w hs => run_assign) ?_
        refine AL.end (by kernel_rfl) (Step.dropR (L1 := [_, _, _]) hs) (trivial) ?_
        replace hT := hT.mono (D' := Lv1 ++ D) fun p hp => List.mem_append_right _ hp
        refine CW.seq ?_
        refine CW.any (A := fun w => Step S [(b5, blk 27 (u8s dd)), (b3, blk 48 x.cells), (bw, blk 64 (woC bp br vI))] w0 w) (C := fun w => Step S [(b5, blk 27 (u8s dd)), (b3, blk 48 x.cells), (bw, blk 64 (woC bp br vI))] w0 w) 5 11 mixedP rfl ?_
        replace hs := hs.drew
        refine AL.valA 0 rfl (by kernel_rfl) rfl (fun w hs => run_move) ?_
        refine AL.valA 1 rfl (by kernel_rfl) rfl (fun w hs => run_nilCheck rfl) ?_
        refine AL.valA 2 rfl (by kernel_rfl) rfl (fun w hs => run_field (o' := 1) Try.underlying64 rfl ty62 rfl rfl rfl) ?_
        refine AL.val 3 rfl (by kernel_rfl) rfl (fun w hs => run_load1 ty62 rfl (hs.c2 (v := .pointer (some ⟨br, 0, none⟩)) rfl)) ?_
        refine AL.val 4 rfl (by kernel_rfl) rfl (fun w hs => run_loadN ty27 rfl hul hs.a0) ?_
        refine AL.one 5 (by kernel_rfl) rfl (Step.dropR (L1 := [_, _, _]) hs) (Step.dropR (L1 := [_, _, _]) hs) ?_
        refine WL.enter rfl (run_call en69 rfl rfl) (hrra hT (Two.rlive (A := _ :: _ :: _ :: Lm) hs)) ?_
        rintro e w ⟨v2, Lv2, rfl, hu2, hq⟩
        refine ⟨_, rfl, ?_⟩
        replace hs := Two.keep (A := _ :: _ :: _ :: Lm) hs hq
        refine WL.nil ?_
        refine ⟨rfl, ?_⟩
        refine AL.relax (by kernel_rfl) ?_
        refine AL.valA 6 rfl (by kernel_rfl) rfl (fun w hs => run_move) ?_
        refine AL.valA 7 rfl (by kernel_rfl) rfl (fun w hs => run_extract rfl rfl) ?_
        refine AL.valA 8 rfl (by kernel_rfl) rfl (fun w hs => run_extract rfl rfl) ?_
        refine AL.valA 9 rfl (by kernel_rfl) rfl (fun w hs => run_assign) ?_
        refine AL.valA 10 rfl (by kernel_rfl) rfl (fun w hs => run_assign) ?_
        refine AL.end (by kernel_rfl) (Step.dropR (L1 := [_, _, _]) hs) (trivial) ?_
        have g1 : Held Lv1 v1 gx := ⟨Lv1, hu1, fun p hp => hp⟩
        have g2 : Held Lv2 v2 gx := ⟨Lv2, hu2, fun p hp => hp⟩
        replace hR := hR.mono (D' := Lv2 ++ (Lv1 ++ D)) fun p hp => List.mem_append_right _ (List.mem_append_right _ hp)
        replace hT := hT.mono (D' := Lv2 ++ (Lv1 ++ D)) fun p hp => List.mem_append_right _ hp
        have hobt : ∃ Dn, Lv2 ++ (Lv1 ++ D) = Dn ++ D := ⟨Lv2 ++ Lv1, by rw [List.append_assoc]⟩
        obtain ⟨Dn, hDn⟩ := hobt
        have hl1 : ∀ p ∈ Lv1, p ∈ Dn ++ D := fun p hp => by rw [← hDn]; simp [hp]
        have hl2 : ∀ p ∈ Lv2, p ∈ Dn ++ D := fun p hp => by rw [← hDn]; simp [hp]
        rw [hDn] at hs hR hT
        have hha := fun {w1} hl => has_abs (d := dd) (w0 := w1) hR ok hl hdl
        have hwh := fun {w1} hl => whole_abs (d := dd) (w0 := w1) hR ok hl hdl
        have hrwh := fun {w1} hl => rwhole_abs (d := dd) (w0 := w1) hT ok hl hdl
        simp only [hha2] at hha
        refine CW.seq ?_
        refine CW.quiet mixedP (by kernel_rfl) hs ?_
        refine QL.val rfl (fun w hs => run_move) ?_
        refine QL.val rfl (fun w hs => run_move) ?_
        refine QL.val rfl (fun w hs => run_bE (run_eqlB Try.underlying4 rfl rfl) (show (ha == ha) = true by simp)) ?_
        refine QL.val rfl (fun w hs => run_move) ?_
        refine QL.yes rfl rfl rfl ?_; refine QL.val rfl (fun w hs => run_move) ?_
        refine QL.yes rfl rfl rfl ?_; refine QL.val rfl (fun w hs => run_move) ?_
        refine QL.yes rfl rfl rfl ?_
        refine QL.enter rfl (fun w => run_call en18 rfl rfl) (fun w hs => hsame (g1.sl fun p hp => hs.has p (List.mem_append_right (_ :: _ :: _ :: Lm) (List.mem_append_right L (List.mem_append_right R (hl1 p hp))))) (g2.sl fun p hp => hs.has p (List.mem_append_right (_ :: _ :: _ :: Lm) (List.mem_append_right L (List.mem_append_right R (hl2 p hp)))))) ?_
        refine QL.val rfl (fun w hs => run_pickT rfl) ?_
        refine QL.val rfl (fun w hs => run_move) ?_
        refine QL.yes rfl rfl rfl ?_; refine QL.val rfl (fun w hs => run_move) ?_
        refine QL.yes rfl rfl rfl ?_; refine QL.val rfl (fun w hs => run_nilCheck rfl) ?_
        refine QL.yes rfl rfl rfl ?_; refine QL.val rfl (fun w hs => run_field (o' := 0) Try.underlying64 rfl ty24 rfl rfl rfl) ?_
        refine QL.yes rfl rfl rfl ?_
        refine QL.val rfl (fun w hs => run_load1 ty24 rfl (hs.c2 (v := .pointer (some ⟨bp, 0, none⟩)) rfl)) ?_
        refine QL.yes rfl rfl rfl ?_
        refine QL.val rfl (fun w hs => run_loadN ty27 rfl hul hs.a0) ?_
        refine QL.yes rfl rfl rfl ?_
        refine QL.enter rfl (fun w => run_call en43 rfl rfl) (fun w hs => hha (Two.live (A := _ :: _ :: _ :: Lm) hs)) ?_
        refine QL.yes rfl rfl rfl ?_; refine QL.val rfl (fun w hs => run_move) ?_
        refine QL.yes rfl rfl rfl ?_
        refine QL.val rfl (fun w hs => run_bE (run_eqlB Try.underlying4 rfl rfl) (show (ha == ha) = true by simp)) ?_
        refine QL.val rfl (fun w hs => run_pickT rfl) ?_
        refine QL.val rfl (fun w hs => run_move) ?_
        refine QL.yes rfl rfl rfl ?_; refine QL.val rfl (fun w hs => run_move) ?_
        refine QL.yes rfl rfl rfl ?_; refine QL.val rfl (fun w hs => run_nilCheck rfl) ?_
        refine QL.yes rfl rfl rfl ?_; refine QL.val rfl (fun w hs => run_field (o' := 0) Try.underlying64 rfl ty24 rfl rfl rfl) ?_
        refine QL.yes rfl rfl rfl ?_
        refine QL.val rfl (fun w hs => run_load1 ty24 rfl (hs.c2 (v := .pointer (some ⟨bp, 0, none⟩)) rfl)) ?_
        refine QL.yes rfl rfl rfl ?_
        refine QL.val rfl (fun w hs => run_loadN ty27 rfl hul hs.a0) ?_
        refine QL.yes rfl rfl rfl ?_
        refine QL.enter rfl (fun w => run_call en16 rfl rfl) (fun w hs => hwh (Two.live (A := _ :: _ :: _ :: Lm) hs)) ?_
        refine QL.yes rfl rfl rfl ?_; refine QL.val rfl (fun w hs => run_move) ?_
        refine QL.yes rfl rfl rfl ?_; refine QL.val rfl (fun w hs => run_nilCheck rfl) ?_
        refine QL.yes rfl rfl rfl ?_; refine QL.val rfl (fun w hs => run_field (o' := 1) Try.underlying64 rfl ty62 rfl rfl rfl) ?_
        refine QL.yes rfl rfl rfl ?_
        refine QL.val rfl (fun w hs => run_load1 ty62 rfl (hs.c2 (v := .pointer (some ⟨br, 0, none⟩)) rfl)) ?_
        refine QL.yes rfl rfl rfl ?_
        refine QL.val rfl (fun w hs => run_loadN ty27 rfl hul hs.a0) ?_
        refine QL.yes rfl rfl rfl ?_
        refine QL.enter rfl (fun w => run_call en70 rfl rfl) (fun w hs => hrwh (Two.rlive (A := _ :: _ :: _ :: Lm) hs)) ?_
        refine QL.yes rfl rfl rfl ?_
        refine QL.val rfl (fun w hs => run_bE (run_eqlB Try.underlying4 rfl rfl) (show (s.whole dd == s.whole dd) = true by simp)) ?_
        refine QL.val rfl (fun w hs => run_pickT rfl) ?_
        refine QL.val rfl (fun w hs => run_assign) ?_
        refine QL.nil (fun w hs => ?_)
        refine CW.ret ?_
        refine fin_ret1 rfl ?_
        have hobt := hfin hs.tail.tail hI hR hT
        obtain ⟨W', D', hW', hs'⟩ := hobt
        exact ⟨s, W', D', rfl, hW', ok, few.mono (Nat.le_succ _), rfl, hs'⟩
      · cases h
    · refine CW.seq ?_
      refine CW.reg ?_
      refine WL.val rfl (run_bF (run_eql rfl rfl) (by exact k3)) ?_
      refine WL.val rfl (run_assign) ?_
      refine WL.nil ?_
      refine CW.cond rfl (fun h => ?_) (fun h => ?_)
      · cases h
      by_cases k4 : x.kind = 4
      · refine CW.seq ?_
        refine CW.reg ?_
        refine WL.val rfl (run_bT (run_eql rfl rfl) (by exact k4)) ?_
        refine WL.val rfl (run_assign) ?_
        refine WL.nil ?_
        refine CW.cond rfl (fun h => ?_) (fun h => ?_)
        · have hst := fun {w1} hl => stamp_abs (d := dd) (w0 := w1) hR ok hl hdl
          have hrst := fun {w1} hl => rstamp_abs (d := dd) (w0 := w1) hT ok hl hdl
          refine CW.seq ?_
          refine CW.quiet mixedP (by kernel_rfl) hs ?_
          refine QL.val rfl (fun w hs => run_move) ?_
          refine QL.val rfl (fun w hs => run_nilCheck rfl) ?_
          refine QL.val rfl (fun w hs => run_field (o' := 0) Try.underlying64 rfl ty24 rfl rfl rfl) ?_
          refine QL.val rfl (fun w hs => run_load1 ty24 rfl (hs.c2 (v := .pointer (some ⟨bp, 0, none⟩)) rfl)) ?_
          refine QL.val rfl (fun w hs => run_loadN ty27 rfl hul hs.a0) ?_
          refine QL.enter rfl (fun w => run_call en48 rfl rfl) (fun w hs => hst (Two.live (A := _ :: _ :: _ :: Lm) hs)) ?_
          refine QL.val rfl (fun w hs => run_move) ?_
          refine QL.val rfl (fun w hs => run_nilCheck rfl) ?_
          refine QL.val rfl (fun w hs => run_field (o' := 1) Try.underlying64 rfl ty62 rfl rfl rfl) ?_
          refine QL.val rfl (fun w hs => run_load1 ty62 rfl (hs.c2 (v := .pointer (some ⟨br, 0, none⟩)) rfl)) ?_
          refine QL.val rfl (fun w hs => run_loadN ty27 rfl hul hs.a0) ?_
          refine QL.enter rfl (fun w => run_call en71 rfl rfl) (fun w hs => hrst (Two.rlive (A := _ :: _ :: _ :: Lm) hs)) ?_
          refine QL.val rfl (fun w hs => run_bT (run_eql rfl rfl) (by rfl)) ?_
          refine QL.val rfl (fun w hs => run_assign) ?_
          refine QL.nil (fun w hs => ?_)
          refine CW.ret ?_
          refine fin_ret1 rfl ?_
          have hobt := hfin (D2 := []) hs.tail.tail hI hR hT
          obtain ⟨W', D', hW', hs'⟩ := hobt
          exact ⟨s, W', D', rfl, hW', ok, few.mono (Nat.le_succ _), rfl, hs'⟩
        · cases h
      · refine CW.seq ?_
        refine CW.reg ?_
        refine WL.val rfl (run_bF (run_eql rfl rfl) (by exact k4)) ?_
        refine WL.val rfl (run_assign) ?_
        refine WL.nil ?_
        refine CW.cond rfl (fun h => ?_) (fun h => ?_)
        · cases h
        have hev := fun {w1} hl => evict_abs (d := dd) (w0 := w1) hR ok hl hdl
        have hrev := fun {w1} hl => revict_abs (d := dd) (w0 := w1) hT ok hl hdl
        have ok2 := ok.del dd
        have few2 := (few.evict dd).mono (Nat.le_succ _)
        have hk3 : (s.evict dd).k = s.k := rfl
        have hobt : ∃ s2, s.evict dd = s2 := ⟨_, rfl⟩
        obtain ⟨s2, hs2⟩ := hobt
        have hobt : ∃ ha, s.has dd = ha := ⟨_, rfl⟩
        obtain ⟨ha, hha2⟩ := hobt
        rw [hs2] at ok2 few2 hk3
        simp only [hs2, hha2] at hev hrev
        repeat (first | refine CW.seq ?_ | refine CW.skip ?_)
        refine CW.any (A := fun w => Step S [(b5, blk 27 (u8s dd)), (b3, blk 48 x.cells), (bw, blk 64 (woC bp br vI))] w0 w) (C := fun w => Step S [(b5, blk 27 (u8s dd)), (b3, blk 48 x.cells), (bw, blk 64 (woC bp br vI))] w0 w) 5 14 mixedP rfl ?_
        replace hs := hs.drew
        refine AL.valA 0 rfl (by kernel_rfl) rfl (fun w hs => run_move) ?_
        refine AL.valA 1 rfl (by kernel_rfl) rfl (fun w hs => run_nilCheck rfl) ?_
        refine AL.valA 2 rfl (by kernel_rfl) rfl (fun w hs => run_field (o' := 0) Try.underlying64 rfl ty24 rfl rfl rfl) ?_
        refine AL.val 3 rfl (by kernel_rfl) rfl (fun w hs => run_load1 ty24 rfl (hs.c2 (v := .pointer (some ⟨bp, 0, none⟩)) rfl)) ?_
        refine AL.val 4 rfl (by kernel_rfl) rfl (fun w hs => run_loadN ty27 rfl hul hs.a0) ?_
        refine AL.valA 6 rfl (by kernel_rfl) rfl (fun w hs => run_move) ?_
        refine AL.valA 7 rfl (by kernel_rfl) rfl (fun w hs => run_nilCheck rfl) ?_
        refine AL.valA 8 rfl (by kernel_rfl) rfl (fun w hs => run_field (o' := 1) Try.underlying64 rfl ty62 rfl rfl rfl) ?_
        refine AL.valA 9 rfl (by kernel_rfl) rfl (fun w hs => run_load1 ty62 rfl (hs.c2 (v := .pointer (some ⟨br, 0, none⟩)) rfl)) ?_
        refine AL.valA 10 rfl (by kernel_rfl) rfl (fun w hs => run_loadN ty27 rfl hul hs.a0) ?_
        refine AL.one 5 (by kernel_rfl) rfl (Step.dropR (L1 := [_, _, _]) hs) (Step.dropR (L1 := [_, _, _]) hs) ?_
        refine WL.enter rfl (run_call en26 rfl rfl) (hev (Two.live (A := _ :: _ :: _ :: Lm) hs)) ?_
        rintro e w ⟨L2, rfl, hR2, hq⟩
        refine ⟨_, rfl, ?_⟩
        replace hs := Two.set (A := _ :: _ :: _ :: Lm) hs hq
        refine WL.nil ?_
        refine ⟨rfl, ?_⟩
        refine AL.relax (by kernel_rfl) ?_
        refine AL.one 11 (by kernel_rfl) rfl (Step.dropR (L1 := [_, _, _]) hs) (trivial) ?_
        refine WL.enter rfl (run_call en72 rfl rfl) (hrev (Two.rlive (A := _ :: _ :: _ :: Lm) hs)) ?_
        rintro e w ⟨R2, rfl, hT2, hq⟩
        refine ⟨_, rfl, ?_⟩
        replace hs := Two.rset (A := _ :: _ :: _ :: Lm) hs hq
        refine WL.nil ?_
        refine ⟨rfl, ?_⟩
        refine AL.valA 12 rfl (by kernel_rfl) rfl (fun w hs => run_bE (run_eqlB Try.underlying4 rfl rfl) (show (ha == ha) = true by simp)) ?_
        refine AL.valA 13 rfl (by kernel_rfl) rfl (fun w hs => run_assign) ?_
        refine AL.end (by kernel_rfl) (Step.dropR (L1 := [_, _, _]) hs) (trivial) ?_
        refine CW.ret ?_
        refine fin_ret1 rfl ?_
        have hobt := hfin (D2 := []) hs.tail.tail hI hR2 hT2
        obtain ⟨W', D', hW', hs'⟩ := hobt
        exact ⟨s2, W', D', rfl, hW', ok2, few2, hk3, hs'⟩
end
end Go.Gx
/-! World7 -/
namespace Go.Gx
open Go.Proofs
set_option linter.unusedVariables false
set_option linter.unusedSimpArgs false
set_option maxRecDepth 100000
attribute [local irreducible] shaL cutD frontL
theorem Step.dropMid {S : List Nat} {A B C : List (Nat × Obj)} {w0 w : World} (h : Step S (A ++ (B ++ C)) w0 w) : Step S (A ++ C) w0 w := by
  have h1 : Step S (B ++ (A ++ C)) w0 w := h.perm (by
    have h2 : (A ++ B ++ C).Perm (B ++ A ++ C) := List.perm_append_comm.append_right C
    simpa [List.append_assoc] using h2)
  exact h1.dropL
section
variable {S : List Nat} {A L Lt D : List (Nat × Obj)} {w0 w : World}
theorem Own.swap (hs : Step S (A ++ (L ++ (Lt ++ D))) w0 w) : Step S (A ++ (Lt ++ (L ++ D))) w0 w := hs.perm (by
  have h : (L ++ Lt ++ D).Perm (Lt ++ L ++ D) := List.perm_append_comm.append_right D
  simpa [List.append_assoc] using h.append_left A)
end
section
variable {f : Slots} {w : World} {d : Option Tmp} {ty : TypeId} {pos : String} {af : Array Edge} {x y : Operand} {T' : TypeId}
theorem cnt_key : Try.prog.keyTypeAt 5 66 = true := by kernel_rfl
theorem cnt_guard : Try.prog.eqGuardType Try.prog.depth 66 = false := by kernel_rfl
theorem cnt_formed (a b : Nat) : Value.formed Try.prog 66 (.agg [.int .i64 (a : Nat), .int .i64 (b : Nat)].toArray) = true := by
  simp only [Value.formed, Try.underlying66, ty66.cellsOf]
  simp
theorem cnt_lits {a b : Nat} (ha : a < 1099511627776) (hb : b < 1099511627776) : Try.prog.keyLits 4 66 [.int .i64 (a : Nat), .int .i64 (b : Nat)] = some [.int .i64 (a : Nat), .int .i64 (b : Nat)] := by
  have h2 : ∀ c : Nat, c < 1099511627776 → Try.prog.keyLits 3 3 [.int .i64 (c : Nat)] = some [.int .i64 (c : Nat)] := fun c hc => by
    have hw : (Lit.int .i64 (c : Nat)).wf = true := WalkArith.wf_i64 (by omega)
    unfold Program.keyLits
    simp only [Try.underlying3, hw, and_self, if_true]
  unfold Program.keyLits
  simp only [Try.underlying66, ty66.cellsOf]
  rw [if_pos ⟨rfl, by kernel_rfl⟩]
  have e1 : (([.int .i64 (a : Nat), .int .i64 (b : Nat)] : List Value).drop 0).take 1 = [.int .i64 (a : Nat)] := rfl
  have e2 : (([.int .i64 (a : Nat), .int .i64 (b : Nat)] : List Value).drop 1).take 1 = [.int .i64 (b : Nat)] := rfl
  simp only [List.mapM_cons, List.mapM_nil, ty3.cellsOf, e1, e2, h2 a ha, h2 b hb]
  rfl
theorem run_eqCnt {a b : Nat} (ha : a < 1099511627776) (hb : b < 1099511627776) (hx : ev f x = .agg #[.int .i64 (a : Nat), .int .i64 (b : Nat)]) (hy : ev f y = .agg #[.int .i64 (a : Nat), .int .i64 (b : Nat)]) :
    (execOp (ev f) ⟨d, .binOp .eql 66 x y T', ty, pos, af, none⟩).run Try.prog w = .ok (.value (.bool true)) w :=
  run_bT (run_eqlAgg (p := True) (by simp) cnt_key (cnt_formed a b) (cnt_formed a b) cnt_guard hx hy (cnt_lits ha hb) (cnt_lits ha hb)) trivial
end
theorem RRep.cells {br : Nat} {s : AS} {D R : List (Nat × Obj)} (h : RRep br s D R) : ∃ a c, ∀ {w : World}, Lives (R ++ D) w → At w br 0 (rsC s.k s.cap s.last (.slice a s.X.length c) s.gets s.puts) := by
  obtain ⟨v, Lv, T, rfl, h2, _⟩ := h
  have hobt := h2.form
  obtain ⟨a, c, rfl⟩ := hobt
  exact ⟨a, c, fun hw => At.of_blk (hw.has (br, blk 70 (rsC s.k s.cap s.last (.slice a s.X.length c) s.gets s.puts)) (by simp))⟩
section
variable {bw : Nat} {s : AS} {D W : List (Nat × Obj)} {n : Nat} {x : Stp} {w0 : World}
set_option maxHeartbeats 8000000 in
theorem wstep_spec (hW : WRep bw s D W) (ok : s.Ok) (few : s.Few n) (hn : n < 1099511627775) (hw : Lives (W ++ D) w0) (hx : x.Ok w0) (hOb : OutE x.vb x.b ((W ++ D).map (·.1))) (hOc : OutE x.vc x.c ((W ++ D).map (·.1))) :
    Calls Try.prog 32 #[.pointer (some ⟨bw, 0, none⟩), .agg x.cells.toArray] w0 (WPost bw s D W n w0) := by
  have hx3 := Stp.cells_len hx
  have hx1 := Stp.cells1 hx
  have hobt := hx.hb.form
  obtain ⟨ab, cb, hvb⟩ := hobt
  have hobt := hx.hc.form
  obtain ⟨ac, cc, hvc⟩ := hobt
  have hlb := hx.lb
  have hlc := hx.lc
  have h1 : x.cells[1]? = some (.slice ab x.b.length cb) := by rw [← hvb]; rfl
  have h2 : x.cells[2]? = some (.slice ac x.c.length cc) := by rw [← hvc]; rfl
  have h36 := Stp.get36 hx
  by_cases hbl : x.b.length ≤ 8192
  case neg =>
    have hs : Step ((W ++ D).map (·.1)) (W ++ D) w0 w0 := hw
    refine calls (n := 151) Try.func32 rfl rfl rfl ?_
    refine CW.seq ?_
    refine CW.reg ?_
    refine WL.box (cs := x.cells) rfl rfl rfl hs (fun b3 w hs => ?_)
    refine WL.val rfl (run_assign) ?_
    refine WL.nil ?_
    refine CW.seq <| CW.seq ?_
    refine CW.reg ?_
    refine WL.val rfl (run_field (o' := 1) Try.underlying48 rfl ty22 rfl rfl rfl) ?_
    refine WL.val rfl (run_load1 ty22 rfl (hs.c0 h1)) ?_
    refine WL.val rfl (run_lenSl Try.underlying22 rfl) ?_
    refine WL.val rfl (run_bT (run_gtr rfl rfl) (by omega)) ?_
    refine WL.val rfl (run_move) ?_
    refine WL.no rfl rfl rfl (.inl rfl) ?_
    refine WL.no rfl rfl rfl (.inl rfl) ?_
    refine WL.no rfl rfl rfl (.inl rfl) ?_
    refine WL.no rfl rfl rfl (.inl rfl) ?_
    refine WL.val rfl (run_pickT rfl) ?_
    refine WL.nil ?_
    refine CW.cond rfl (fun h => ?_) (fun h => ?_)
    · refine CW.seq ?_
      refine CW.reg ?_
      refine WL.val rfl (run_assign) ?_
      refine WL.nil ?_
      refine CW.ret ?_
      refine fin_ret1 rfl ?_
      exact ⟨s, W, [], rfl, hW, ok, few.mono (Nat.le_succ _), rfl, Step.narrow hw (by rw [List.append_nil]; exact hs.tail)⟩
    · cases h
  by_cases hcl : x.c.length ≤ 8192
  case neg =>
    have hs : Step ((W ++ D).map (·.1)) (W ++ D) w0 w0 := hw
    refine calls (n := 151) Try.func32 rfl rfl rfl ?_
    refine CW.seq ?_
    refine CW.reg ?_
    refine WL.box (cs := x.cells) rfl rfl rfl hs (fun b3 w hs => ?_)
    refine WL.val rfl (run_assign) ?_
    refine WL.nil ?_
    refine CW.seq <| CW.seq ?_
    refine CW.reg ?_
    refine WL.val rfl (run_field (o' := 1) Try.underlying48 rfl ty22 rfl rfl rfl) ?_
    refine WL.val rfl (run_load1 ty22 rfl (hs.c0 h1)) ?_
    refine WL.val rfl (run_lenSl Try.underlying22 rfl) ?_
    refine WL.val rfl (run_bF (run_gtr rfl rfl) (by omega)) ?_
    refine WL.val rfl (run_move) ?_
    refine WL.yes rfl rfl rfl ?_; refine WL.val rfl (run_field (o' := 2) Try.underlying48 rfl ty22 rfl rfl rfl) ?_
    refine WL.yes rfl rfl rfl ?_
    refine WL.val rfl (run_load1 ty22 rfl (hs.c0 h2)) ?_
    refine WL.yes rfl rfl rfl ?_; refine WL.val rfl (run_lenSl Try.underlying22 rfl) ?_
    refine WL.yes rfl rfl rfl ?_
    refine WL.val rfl (run_bT (run_gtr rfl rfl) (by omega)) ?_
    refine WL.val rfl (run_pickF rfl) ?_
    refine WL.nil ?_
    refine CW.cond rfl (fun h => ?_) (fun h => ?_)
    · refine CW.seq ?_
      refine CW.reg ?_
      refine WL.val rfl (run_assign) ?_
      refine WL.nil ?_
      refine CW.ret ?_
      refine fin_ret1 rfl ?_
      exact ⟨s, W, [], rfl, hW, ok, few.mono (Nat.le_succ _), rfl, Step.narrow hw (by rw [List.append_nil]; exact hs.tail)⟩
    · cases h
  by_cases hp : x.kind = 1 ∨ x.kind = 6 ∨ x.kind = 12
  · have hs : Step ((W ++ D).map (·.1)) (W ++ D) w0 w0 := hw
    refine calls (n := 151) Try.func32 rfl rfl rfl ?_
    refine CW.seq ?_
    refine CW.reg ?_
    refine WL.box (cs := x.cells) rfl rfl rfl hs (fun b3 w hs => ?_)
    refine WL.val rfl (run_assign) ?_
    refine WL.nil ?_
    refine CW.seq <| CW.seq ?_
    refine CW.reg ?_
    refine WL.val rfl (run_field (o' := 1) Try.underlying48 rfl ty22 rfl rfl rfl) ?_
    refine WL.val rfl (run_load1 ty22 rfl (hs.c0 h1)) ?_
    refine WL.val rfl (run_lenSl Try.underlying22 rfl) ?_
    refine WL.val rfl (run_bF (run_gtr rfl rfl) (by omega)) ?_
    refine WL.val rfl (run_move) ?_
    refine WL.yes rfl rfl rfl ?_; refine WL.val rfl (run_field (o' := 2) Try.underlying48 rfl ty22 rfl rfl rfl) ?_
    refine WL.yes rfl rfl rfl ?_
    refine WL.val rfl (run_load1 ty22 rfl (hs.c0 h2)) ?_
    refine WL.yes rfl rfl rfl ?_; refine WL.val rfl (run_lenSl Try.underlying22 rfl) ?_
    refine WL.yes rfl rfl rfl ?_
    refine WL.val rfl (run_bF (run_gtr rfl rfl) (by omega)) ?_
    refine WL.val rfl (run_pickF rfl) ?_
    refine WL.nil ?_
    refine CW.cond rfl (fun h => ?_) (fun h => ?_)
    · cases h
    repeat (first | refine CW.seq ?_ | refine CW.skip ?_)
    refine CW.reg ?_
    refine WL.val rfl (run_field (o' := 0) Try.underlying48 rfl ty3 rfl rfl rfl) ?_
    refine WL.val rfl (run_load1 ty3 rfl (hs.c0 (v := .int .i64 x.kind) rfl)) ?_
    refine WL.nil ?_
    by_cases k1 : x.kind = 1
    · repeat (first | refine CW.seq ?_ | refine CW.block ?_)
      refine CW.reg ?_
      refine WL.val rfl (run_bT (run_eql rfl rfl) (by exact k1)) ?_
      refine WL.val rfl (run_assign) ?_
      refine WL.nil ?_
      repeat (first | refine CW.seq ?_ | refine CW.skip ?_ | refine CW.condT rfl ?_)
      refine CW.reg ?_
      refine WL.val rfl (run_move) ?_
      refine WL.val rfl (run_loadN ty48 rfl hx3 hs.a0) ?_
      refine WL.enter rfl (run_call en50 rfl rfl) (wput_spec (x := x) hW ok few hn (Own.live (A := [_]) hs) (hx.stepE hs hOb hOc) hOb hOc hbl hcl hp) ?_
      rintro e w ⟨s2, W2, D2, rfl, hW2, ok2, few2, hk3, hq⟩
      refine ⟨_, rfl, ?_⟩
      replace hs := Own.put (A := [_]) hs hq
      refine WL.val rfl (run_assign) ?_
      refine WL.nil ?_
      refine CW.ret ?_
      refine fin_ret1 rfl ?_
      exact ⟨s2, W2, D2, rfl, hW2, ok2, few2, hk3, Step.narrow hw (by rw [List.append_assoc]; exact Step.tail hs)⟩
    · repeat (first | refine CW.seq ?_ | refine CW.block ?_)
      refine CW.reg ?_
      refine WL.val rfl (run_bF (run_eql rfl rfl) (by exact k1)) ?_
      refine WL.val rfl (run_assign) ?_
      refine WL.nil ?_
      by_cases k6 : x.kind = 6
      · repeat (first | refine CW.seq ?_ | refine CW.condF rfl ?_)
        refine CW.reg ?_
        refine WL.val rfl (run_bT (run_eql rfl rfl) (by exact k6)) ?_
        refine WL.val rfl (run_assign) ?_
        refine WL.nil ?_
        repeat (first | refine CW.seq ?_ | refine CW.skip ?_ | refine CW.condT rfl ?_)
        refine CW.reg ?_
        refine WL.val rfl (run_move) ?_
        refine WL.val rfl (run_loadN ty48 rfl hx3 hs.a0) ?_
        refine WL.enter rfl (run_call en50 rfl rfl) (wput_spec (x := x) hW ok few hn (Own.live (A := [_]) hs) (hx.stepE hs hOb hOc) hOb hOc hbl hcl hp) ?_
        rintro e w ⟨s2, W2, D2, rfl, hW2, ok2, few2, hk3, hq⟩
        refine ⟨_, rfl, ?_⟩
        replace hs := Own.put (A := [_]) hs hq
        refine WL.val rfl (run_assign) ?_
        refine WL.nil ?_
        refine CW.ret ?_
        refine fin_ret1 rfl ?_
        exact ⟨s2, W2, D2, rfl, hW2, ok2, few2, hk3, Step.narrow hw (by rw [List.append_assoc]; exact Step.tail hs)⟩
      · repeat (first | refine CW.seq ?_ | refine CW.condF rfl ?_)
        refine CW.reg ?_
        refine WL.val rfl (run_bF (run_eql rfl rfl) (by exact k6)) ?_
        refine WL.val rfl (run_assign) ?_
        refine WL.nil ?_
        refine CW.condF rfl ?_
        refine CW.reg ?_
        refine WL.val rfl (run_bT (run_eql rfl rfl) (by omega)) ?_
        refine WL.val rfl (run_assign) ?_
        refine WL.nil ?_
        repeat (first | refine CW.seq ?_ | refine CW.condT rfl ?_)
        refine CW.reg ?_
        refine WL.val rfl (run_move) ?_
        refine WL.val rfl (run_loadN ty48 rfl hx3 hs.a0) ?_
        refine WL.enter rfl (run_call en50 rfl rfl) (wput_spec (x := x) hW ok few hn (Own.live (A := [_]) hs) (hx.stepE hs hOb hOc) hOb hOc hbl hcl hp) ?_
        rintro e w ⟨s2, W2, D2, rfl, hW2, ok2, few2, hk3, hq⟩
        refine ⟨_, rfl, ?_⟩
        replace hs := Own.put (A := [_]) hs hq
        refine WL.val rfl (run_assign) ?_
        refine WL.nil ?_
        refine CW.ret ?_
        refine fin_ret1 rfl ?_
        exact ⟨s2, W2, D2, rfl, hW2, ok2, few2, hk3, Step.narrow hw (by rw [List.append_assoc]; exact Step.tail hs)⟩
  by_cases ha : x.kind = 2 ∨ x.kind = 3 ∨ x.kind = 4 ∨ x.kind = 5
  · have hs : Step ((W ++ D).map (·.1)) (W ++ D) w0 w0 := hw
    refine calls (n := 151) Try.func32 rfl rfl rfl ?_
    refine CW.seq ?_
    refine CW.reg ?_
    refine WL.box (cs := x.cells) rfl rfl rfl hs (fun b3 w hs => ?_)
    refine WL.val rfl (run_assign) ?_
    refine WL.nil ?_
    refine CW.seq <| CW.seq ?_
    refine CW.reg ?_
    refine WL.val rfl (run_field (o' := 1) Try.underlying48 rfl ty22 rfl rfl rfl) ?_
    refine WL.val rfl (run_load1 ty22 rfl (hs.c0 h1)) ?_
    refine WL.val rfl (run_lenSl Try.underlying22 rfl) ?_
    refine WL.val rfl (run_bF (run_gtr rfl rfl) (by omega)) ?_
    refine WL.val rfl (run_move) ?_
    refine WL.yes rfl rfl rfl ?_; refine WL.val rfl (run_field (o' := 2) Try.underlying48 rfl ty22 rfl rfl rfl) ?_
    refine WL.yes rfl rfl rfl ?_
    refine WL.val rfl (run_load1 ty22 rfl (hs.c0 h2)) ?_
    refine WL.yes rfl rfl rfl ?_; refine WL.val rfl (run_lenSl Try.underlying22 rfl) ?_
    refine WL.yes rfl rfl rfl ?_
    refine WL.val rfl (run_bF (run_gtr rfl rfl) (by omega)) ?_
    refine WL.val rfl (run_pickF rfl) ?_
    refine WL.nil ?_
    refine CW.cond rfl (fun h => ?_) (fun h => ?_)
    · cases h
    repeat (first | refine CW.seq ?_ | refine CW.skip ?_)
    refine CW.reg ?_
    refine WL.val rfl (run_field (o' := 0) Try.underlying48 rfl ty3 rfl rfl rfl) ?_
    refine WL.val rfl (run_load1 ty3 rfl (hs.c0 (v := .int .i64 x.kind) rfl)) ?_
    refine WL.nil ?_
    repeat (first | refine CW.seq ?_ | refine CW.block ?_)
    refine CW.reg ?_
    refine WL.val rfl (run_bF (run_eql rfl rfl) (by omega)) ?_
    refine WL.val rfl (run_assign) ?_
    refine WL.nil ?_
    repeat (first | refine CW.seq ?_ | refine CW.condF rfl ?_)
    refine CW.reg ?_
    refine WL.val rfl (run_bF (run_eql rfl rfl) (by omega)) ?_
    refine WL.val rfl (run_assign) ?_
    refine WL.nil ?_
    refine CW.condF rfl ?_
    refine CW.reg ?_
    refine WL.val rfl (run_bF (run_eql rfl rfl) (by omega)) ?_
    refine WL.val rfl (run_assign) ?_
    refine WL.nil ?_
    by_cases k2 : x.kind = 2
    · repeat (first | refine CW.seq ?_ | refine CW.condF rfl ?_)
      refine CW.reg ?_
      refine WL.val rfl (run_bT (run_eql rfl rfl) (by exact k2)) ?_
      refine WL.val rfl (run_assign) ?_
      refine WL.nil ?_
      repeat (first | refine CW.seq ?_ | refine CW.skip ?_ | refine CW.condT rfl ?_)
      refine CW.reg ?_
      refine WL.val rfl (run_move) ?_
      refine WL.val rfl (run_loadN ty48 rfl hx3 hs.a0) ?_
      refine WL.enter rfl (run_call en51 rfl rfl) (wasked_spec (x := x) hW ok few hn (Own.live (A := [_]) hs) (hx.stepE hs hOb hOc) hOb hOc hbl) ?_
      rintro e w ⟨s2, W2, D2, rfl, hW2, ok2, few2, hk3, hq⟩
      refine ⟨_, rfl, ?_⟩
      replace hs := Own.put (A := [_]) hs hq
      refine WL.val rfl (run_assign) ?_
      refine WL.nil ?_
      refine CW.ret ?_
      refine fin_ret1 rfl ?_
      exact ⟨s2, W2, D2, rfl, hW2, ok2, few2, hk3, Step.narrow hw (by rw [List.append_assoc]; exact Step.tail hs)⟩
    · repeat (first | refine CW.seq ?_ | refine CW.condF rfl ?_)
      refine CW.reg ?_
      refine WL.val rfl (run_bF (run_eql rfl rfl) (by exact k2)) ?_
      refine WL.val rfl (run_assign) ?_
      refine WL.nil ?_
      by_cases k3 : x.kind = 3
      · repeat (first | refine CW.seq ?_ | refine CW.condF rfl ?_)
        refine CW.reg ?_
        refine WL.val rfl (run_bT (run_eql rfl rfl) (by exact k3)) ?_
        refine WL.val rfl (run_assign) ?_
        refine WL.nil ?_
        repeat (first | refine CW.seq ?_ | refine CW.skip ?_ | refine CW.condT rfl ?_)
        refine CW.reg ?_
        refine WL.val rfl (run_move) ?_
        refine WL.val rfl (run_loadN ty48 rfl hx3 hs.a0) ?_
        refine WL.enter rfl (run_call en51 rfl rfl) (wasked_spec (x := x) hW ok few hn (Own.live (A := [_]) hs) (hx.stepE hs hOb hOc) hOb hOc hbl) ?_
        rintro e w ⟨s2, W2, D2, rfl, hW2, ok2, few2, hk3, hq⟩
        refine ⟨_, rfl, ?_⟩
        replace hs := Own.put (A := [_]) hs hq
        refine WL.val rfl (run_assign) ?_
        refine WL.nil ?_
        refine CW.ret ?_
        refine fin_ret1 rfl ?_
        exact ⟨s2, W2, D2, rfl, hW2, ok2, few2, hk3, Step.narrow hw (by rw [List.append_assoc]; exact Step.tail hs)⟩
      · repeat (first | refine CW.seq ?_ | refine CW.condF rfl ?_)
        refine CW.reg ?_
        refine WL.val rfl (run_bF (run_eql rfl rfl) (by exact k3)) ?_
        refine WL.val rfl (run_assign) ?_
        refine WL.nil ?_
        by_cases k4 : x.kind = 4
        · repeat (first | refine CW.seq ?_ | refine CW.condF rfl ?_)
          refine CW.reg ?_
          refine WL.val rfl (run_bT (run_eql rfl rfl) (by exact k4)) ?_
          refine WL.val rfl (run_assign) ?_
          refine WL.nil ?_
          repeat (first | refine CW.seq ?_ | refine CW.skip ?_ | refine CW.condT rfl ?_)
          refine CW.reg ?_
          refine WL.val rfl (run_move) ?_
          refine WL.val rfl (run_loadN ty48 rfl hx3 hs.a0) ?_
          refine WL.enter rfl (run_call en51 rfl rfl) (wasked_spec (x := x) hW ok few hn (Own.live (A := [_]) hs) (hx.stepE hs hOb hOc) hOb hOc hbl) ?_
          rintro e w ⟨s2, W2, D2, rfl, hW2, ok2, few2, hk3, hq⟩
          refine ⟨_, rfl, ?_⟩
          replace hs := Own.put (A := [_]) hs hq
          refine WL.val rfl (run_assign) ?_
          refine WL.nil ?_
          refine CW.ret ?_
          refine fin_ret1 rfl ?_
          exact ⟨s2, W2, D2, rfl, hW2, ok2, few2, hk3, Step.narrow hw (by rw [List.append_assoc]; exact Step.tail hs)⟩
        · repeat (first | refine CW.seq ?_ | refine CW.condF rfl ?_)
          refine CW.reg ?_
          refine WL.val rfl (run_bF (run_eql rfl rfl) (by exact k4)) ?_
          refine WL.val rfl (run_assign) ?_
          refine WL.nil ?_
          refine CW.condF rfl ?_
          refine CW.reg ?_
          refine WL.val rfl (run_bT (run_eql rfl rfl) (by omega)) ?_
          refine WL.val rfl (run_assign) ?_
          refine WL.nil ?_
          repeat (first | refine CW.seq ?_ | refine CW.condT rfl ?_)
          refine CW.reg ?_
          refine WL.val rfl (run_move) ?_
          refine WL.val rfl (run_loadN ty48 rfl hx3 hs.a0) ?_
          refine WL.enter rfl (run_call en51 rfl rfl) (wasked_spec (x := x) hW ok few hn (Own.live (A := [_]) hs) (hx.stepE hs hOb hOc) hOb hOc hbl) ?_
          rintro e w ⟨s2, W2, D2, rfl, hW2, ok2, few2, hk3, hq⟩
          refine ⟨_, rfl, ?_⟩
          replace hs := Own.put (A := [_]) hs hq
          refine WL.val rfl (run_assign) ?_
          refine WL.nil ?_
          refine CW.ret ?_
          refine fin_ret1 rfl ?_
          exact ⟨s2, W2, D2, rfl, hW2, ok2, few2, hk3, Step.narrow hw (by rw [List.append_assoc]; exact Step.tail hs)⟩
  obtain ⟨bp, br, vI, Lm, L, R, rfl, hI, hR, hT⟩ := hW
  have hs := WRep.start hw
  have hobt : ∃ S, (((bw, blk 64 (woC bp br vI)) :: (Lm ++ (L ++ R))) ++ D).map (·.1) = S := ⟨_, rfl⟩
  obtain ⟨S, hS⟩ := hobt
  have hk1 := ok.k1
  have hk2 := ok.k2
  have hfin := fun {bp br vI s2 Lm2 L2 R2 D2 w} (hs : Step S ((bw, blk 64 (woC bp br vI)) :: (Lm2 ++ (L2 ++ (R2 ++ (D2 ++ D))))) w0 w) h1 h2 h3 => WRep.fin (s := s2) hw (by rw [hS]; exact hs) h1 h2 h3
  rw [hS] at hs hOb hOc
  have hobt := hT.cells
  obtain ⟨ra, rc, hcell⟩ := hobt
  refine calls (n := 151) Try.func32 rfl rfl rfl ?_
  refine CW.seq ?_
  refine CW.reg ?_
  refine WL.box (cs := x.cells) rfl rfl rfl hs (fun b3 w hs => ?_)
  refine WL.val rfl (run_assign) ?_
  refine WL.nil ?_
  refine CW.seq <| CW.seq ?_
  refine CW.reg ?_
  refine WL.val rfl (run_field (o' := 1) Try.underlying48 rfl ty22 rfl rfl rfl) ?_
  refine WL.val rfl (run_load1 ty22 rfl (hs.c0 h1)) ?_
  refine WL.val rfl (run_lenSl Try.underlying22 rfl) ?_
  refine WL.val rfl (run_bF (run_gtr rfl rfl) (by omega)) ?_
  refine WL.val rfl (run_move) ?_
  refine WL.yes rfl rfl rfl ?_; refine WL.val rfl (run_field (o' := 2) Try.underlying48 rfl ty22 rfl rfl rfl) ?_
  refine WL.yes rfl rfl rfl ?_
  refine WL.val rfl (run_load1 ty22 rfl (hs.c0 h2)) ?_
  refine WL.yes rfl rfl rfl ?_; refine WL.val rfl (run_lenSl Try.underlying22 rfl) ?_
  refine WL.yes rfl rfl rfl ?_
  refine WL.val rfl (run_bF (run_gtr rfl rfl) (by omega)) ?_
  refine WL.val rfl (run_pickF rfl) ?_
  refine WL.nil ?_
  refine CW.cond rfl (fun h => ?_) (fun h => ?_)
  · cases h
  repeat (first | refine CW.seq ?_ | refine CW.skip ?_)
  refine CW.reg ?_
  refine WL.val rfl (run_field (o' := 0) Try.underlying48 rfl ty3 rfl rfl rfl) ?_
  refine WL.val rfl (run_load1 ty3 rfl (hs.c0 (v := .int .i64 x.kind) rfl)) ?_
  refine WL.nil ?_
  repeat (first | refine CW.seq ?_ | refine CW.block ?_)
  refine CW.reg ?_
  refine WL.val rfl (run_bF (run_eql rfl rfl) (by omega)) ?_
  refine WL.val rfl (run_assign) ?_
  refine WL.nil ?_
  repeat (first | refine CW.seq ?_ | refine CW.condF rfl ?_)
  refine CW.reg ?_
  refine WL.val rfl (run_bF (run_eql rfl rfl) (by omega)) ?_
  refine WL.val rfl (run_assign) ?_
  refine WL.nil ?_
  refine CW.condF rfl ?_
  refine CW.reg ?_
  refine WL.val rfl (run_bF (run_eql rfl rfl) (by omega)) ?_
  refine WL.val rfl (run_assign) ?_
  refine WL.nil ?_
  repeat (first | refine CW.seq ?_ | refine CW.condF rfl ?_)
  refine CW.reg ?_
  refine WL.val rfl (run_bF (run_eql rfl rfl) (by omega)) ?_
  refine WL.val rfl (run_assign) ?_
  refine WL.nil ?_
  repeat (first | refine CW.seq ?_ | refine CW.condF rfl ?_)
  refine CW.reg ?_
  refine WL.val rfl (run_bF (run_eql rfl rfl) (by omega)) ?_
  refine WL.val rfl (run_assign) ?_
  refine WL.nil ?_
  repeat (first | refine CW.seq ?_ | refine CW.condF rfl ?_)
  refine CW.reg ?_
  refine WL.val rfl (run_bF (run_eql rfl rfl) (by omega)) ?_
  refine WL.val rfl (run_assign) ?_
  refine WL.nil ?_
  refine CW.condF rfl ?_
  refine CW.reg ?_
  refine WL.val rfl (run_bF (run_eql rfl rfl) (by omega)) ?_
  refine WL.val rfl (run_assign) ?_
  refine WL.nil ?_
  by_cases k7 : x.kind = 7
  · repeat (first | refine CW.seq ?_ | refine CW.condF rfl ?_)
    refine CW.reg ?_
    refine WL.val rfl (run_bT (run_eql rfl rfl) (by exact k7)) ?_
    refine WL.val rfl (run_assign) ?_
    refine WL.nil ?_
    refine CW.cond rfl (fun h => ?_) (fun h => ?_)
    · have hli := fun {w1} hl => limit_abs (w0 := w1) hR ok hl x.n
      have hrli := fun {w1} hl => rlimit_abs (w0 := w1) hT ok hl x.n
      have ok2 := ok.limit x.n
      have few2 := (few.limit x.n).mono (Nat.le_succ _)
      have hk3 : (s.limit x.n).2.k = s.k := by unfold AS.limit; split <;> rfl
      have hobt : ∃ s2, (s.limit x.n).2 = s2 := ⟨_, rfl⟩
      obtain ⟨s2, hs2⟩ := hobt
      have hobt : ∃ er, (s.limit x.n).1 = er := ⟨_, rfl⟩
      obtain ⟨er, her⟩ := hobt
      rw [hs2] at ok2 few2 hk3
      simp only [hs2, her] at hli hrli
      refine CW.seq ?_
      refine CW.quietT (l1 := [_, _, _, _, _, _]) (l2 := [_, _]) 6 rfl mixedP rfl (by kernel_rfl) hs ?_
      refine QL.val rfl (fun w hs => run_move) ?_
      refine QL.val rfl (fun w hs => run_nilCheck rfl) ?_
      refine QL.val rfl (fun w hs => run_field (o' := 0) Try.underlying64 rfl ty24 rfl rfl rfl) ?_
      refine QL.val rfl (fun w hs => run_load1 ty24 rfl (hs.c1 (v := .pointer (some ⟨bp, 0, none⟩)) rfl)) ?_
      refine QL.val rfl (fun w hs => run_field (o' := 36) Try.underlying48 rfl ty3 rfl rfl rfl) ?_
      refine QL.val rfl (fun w hs => run_load1 ty3 rfl (hs.c0 h36)) ?_
      refine QL.nil (fun w hs => ?_)
      refine WL.enter rfl (run_call en29 rfl rfl) (hli (Two.live (A := _ :: _ :: Lm) hs)) ?_
      rintro e w ⟨L2, rfl, hR2, hq⟩
      refine ⟨_, rfl, ?_⟩
      replace hs := Two.set (A := _ :: _ :: Lm) hs hq
      refine WL.val rfl (run_assign) ?_
      refine WL.nil ?_
      refine CW.seq ?_
      refine CW.any (A := fun w => Step S [(b3, blk 48 x.cells), (bw, blk 64 (woC bp br vI))] w0 w) (C := fun w => Step S [(b3, blk 48 x.cells), (bw, blk 64 (woC bp br vI))] w0 w) 7 10 mixedP rfl ?_
      replace hs := hs.drew
      refine AL.valA 0 rfl (by kernel_rfl) rfl (fun w hs => run_move) ?_
      refine AL.valA 1 rfl (by kernel_rfl) rfl (fun w hs => run_move) ?_
      refine AL.valA 2 rfl (by kernel_rfl) rfl (fun w hs => run_nilCheck rfl) ?_
      refine AL.valA 3 rfl (by kernel_rfl) rfl (fun w hs => run_field (o' := 1) Try.underlying64 rfl ty62 rfl rfl rfl) ?_
      refine AL.val 4 rfl (by kernel_rfl) rfl (fun w hs => run_load1 ty62 rfl (hs.c1 (v := .pointer (some ⟨br, 0, none⟩)) rfl)) ?_
      refine AL.valA 5 rfl (by kernel_rfl) rfl (fun w hs => run_field (o' := 36) Try.underlying48 rfl ty3 rfl rfl rfl) ?_
      refine AL.val 6 rfl (by kernel_rfl) rfl (fun w hs => run_load1 ty3 rfl (hs.c0 h36)) ?_
      refine AL.one 7 (by kernel_rfl) rfl (Step.dropR (L1 := [_, _]) hs) (Step.dropR (L1 := [_, _]) hs) ?_
      refine WL.enter rfl (run_call en52 rfl rfl) (hrli (Two.rlive (A := _ :: _ :: Lm) hs)) ?_
      rintro e w ⟨R2, rfl, hT2, hq⟩
      refine ⟨_, rfl, ?_⟩
      replace hs := Two.rset (A := _ :: _ :: Lm) hs hq
      refine WL.nil ?_
      refine ⟨rfl, ?_⟩
      refine AL.relax (by kernel_rfl) ?_
      refine AL.valA 8 rfl (by kernel_rfl) rfl (fun w hs => run_bT (run_eql rfl rfl) (by rfl)) ?_
      refine AL.valA 9 rfl (by kernel_rfl) rfl (fun w hs => run_assign) ?_
      refine AL.end (by kernel_rfl) (Step.dropR (L1 := [_, _]) hs) (trivial) ?_
      refine CW.ret ?_
      refine fin_ret1 rfl ?_
      have hobt := hfin (D2 := []) hs.tail hI hR2 hT2
      obtain ⟨W', D', hW', hs'⟩ := hobt
      exact ⟨s2, W', D', rfl, hW', ok2, few2, hk3, hs'⟩
    · cases h
  repeat (first | refine CW.seq ?_ | refine CW.condF rfl ?_)
  refine CW.reg ?_
  refine WL.val rfl (run_bF (run_eql rfl rfl) (by exact k7)) ?_
  refine WL.val rfl (run_assign) ?_
  refine WL.nil ?_
  refine CW.cond rfl (fun h => ?_) (fun h => ?_)
  · cases h
  by_cases k8 : x.kind = 8
  · refine CW.seq ?_
    refine CW.reg ?_
    refine WL.val rfl (run_bT (run_eql rfl rfl) (by exact k8)) ?_
    refine WL.val rfl (run_assign) ?_
    refine WL.nil ?_
    refine CW.cond rfl (fun h => ?_) (fun h => ?_)
    · refine CW.seq ?_
      refine CW.quiet mixedP (by kernel_rfl) hs ?_
      refine QL.val rfl (fun w hs => run_move) ?_
      refine QL.val rfl (fun w hs => run_nilCheck rfl) ?_
      refine QL.val rfl (fun w hs => run_field (o' := 0) Try.underlying64 rfl ty24 rfl rfl rfl) ?_
      refine QL.val rfl (fun w hs => run_load1 ty24 rfl (hs.c1 (v := .pointer (some ⟨bp, 0, none⟩)) rfl)) ?_
      refine QL.enter rfl (fun w => run_call en21 rfl rfl) (fun w hs => len_abs hR ok (Two.live (A := _ :: _ :: Lm) hs)) ?_
      refine QL.val rfl (fun w hs => run_move) ?_
      refine QL.val rfl (fun w hs => run_nilCheck rfl) ?_
      refine QL.val rfl (fun w hs => run_field (o' := 1) Try.underlying64 rfl ty62 rfl rfl rfl) ?_
      refine QL.val rfl (fun w hs => run_load1 ty62 rfl (hs.c1 (v := .pointer (some ⟨br, 0, none⟩)) rfl)) ?_
      refine QL.val rfl (fun w hs => run_nilCheck rfl) ?_
      refine QL.val rfl (fun w hs => run_field (o' := 3) Try.underlying70 rfl ty68 rfl rfl rfl) ?_
      refine QL.val rfl (fun w hs => run_load1 ty68 rfl ((hcell (Two.rlive (A := _ :: _ :: Lm) hs)).cell (j := 3) rfl)) ?_
      refine QL.val rfl (fun w hs => run_lenSl Try.underlying68 rfl) ?_
      refine QL.val rfl (fun w hs => run_bT (run_eql rfl rfl) (by rfl)) ?_
      refine QL.val rfl (fun w hs => run_move) ?_
      refine QL.yes rfl rfl rfl ?_; refine QL.val rfl (fun w hs => run_move) ?_
      refine QL.yes rfl rfl rfl ?_; refine QL.val rfl (fun w hs => run_nilCheck rfl) ?_
      refine QL.yes rfl rfl rfl ?_; refine QL.val rfl (fun w hs => run_field (o' := 0) Try.underlying64 rfl ty24 rfl rfl rfl) ?_
      refine QL.yes rfl rfl rfl ?_
      refine QL.val rfl (fun w hs => run_load1 ty24 rfl (hs.c1 (v := .pointer (some ⟨bp, 0, none⟩)) rfl)) ?_
      refine QL.yes rfl rfl rfl ?_
      refine QL.enter rfl (fun w => run_call en22 rfl rfl) (fun w hs => used_abs hR ok (Two.live (A := _ :: _ :: Lm) hs)) ?_
      refine QL.yes rfl rfl rfl ?_; refine QL.val rfl (fun w hs => run_move) ?_
      refine QL.yes rfl rfl rfl ?_; refine QL.val rfl (fun w hs => run_nilCheck rfl) ?_
      refine QL.yes rfl rfl rfl ?_; refine QL.val rfl (fun w hs => run_field (o' := 1) Try.underlying64 rfl ty62 rfl rfl rfl) ?_
      refine QL.yes rfl rfl rfl ?_
      refine QL.val rfl (fun w hs => run_load1 ty62 rfl (hs.c1 (v := .pointer (some ⟨br, 0, none⟩)) rfl)) ?_
      refine QL.yes rfl rfl rfl ?_
      refine QL.enter rfl (fun w => run_call en53 rfl rfl) (fun w hs => rused_abs hT ok (Two.rlive (A := _ :: _ :: Lm) hs)) ?_
      refine QL.yes rfl rfl rfl ?_
      refine QL.val rfl (fun w hs => run_bT (run_eql rfl rfl) (by rfl)) ?_
      refine QL.val rfl (fun w hs => run_pickT rfl) ?_
      refine QL.val rfl (fun w hs => run_move) ?_
      refine QL.yes rfl rfl rfl ?_; refine QL.val rfl (fun w hs => run_move) ?_
      refine QL.yes rfl rfl rfl ?_; refine QL.val rfl (fun w hs => run_nilCheck rfl) ?_
      refine QL.yes rfl rfl rfl ?_; refine QL.val rfl (fun w hs => run_field (o' := 0) Try.underlying64 rfl ty24 rfl rfl rfl) ?_
      refine QL.yes rfl rfl rfl ?_
      refine QL.val rfl (fun w hs => run_load1 ty24 rfl (hs.c1 (v := .pointer (some ⟨bp, 0, none⟩)) rfl)) ?_
      refine QL.yes rfl rfl rfl ?_
      refine QL.enter rfl (fun w => run_call en23 rfl rfl) (fun w hs => cap_abs hR ok (Two.live (A := _ :: _ :: Lm) hs)) ?_
      refine QL.yes rfl rfl rfl ?_; refine QL.val rfl (fun w hs => run_move) ?_
      refine QL.yes rfl rfl rfl ?_; refine QL.val rfl (fun w hs => run_nilCheck rfl) ?_
      refine QL.yes rfl rfl rfl ?_; refine QL.val rfl (fun w hs => run_field (o' := 1) Try.underlying64 rfl ty62 rfl rfl rfl) ?_
      refine QL.yes rfl rfl rfl ?_
      refine QL.val rfl (fun w hs => run_load1 ty62 rfl (hs.c1 (v := .pointer (some ⟨br, 0, none⟩)) rfl)) ?_
      refine QL.yes rfl rfl rfl ?_; refine QL.val rfl (fun w hs => run_nilCheck rfl) ?_
      refine QL.yes rfl rfl rfl ?_; refine QL.val rfl (fun w hs => run_field (o' := 1) Try.underlying70 rfl ty3 rfl rfl rfl) ?_
      refine QL.yes rfl rfl rfl ?_
      refine QL.val rfl (fun w hs => run_load1 ty3 rfl ((hcell (Two.rlive (A := _ :: _ :: Lm) hs)).cell (j := 1) rfl)) ?_
      refine QL.yes rfl rfl rfl ?_
      refine QL.val rfl (fun w hs => run_bT (run_eql rfl rfl) (by rfl)) ?_
      refine QL.val rfl (fun w hs => run_pickT rfl) ?_
      refine QL.val rfl (fun w hs => run_move) ?_
      refine QL.yes rfl rfl rfl ?_; refine QL.val rfl (fun w hs => run_move) ?_
      refine QL.yes rfl rfl rfl ?_; refine QL.val rfl (fun w hs => run_nilCheck rfl) ?_
      refine QL.yes rfl rfl rfl ?_; refine QL.val rfl (fun w hs => run_field (o' := 0) Try.underlying64 rfl ty24 rfl rfl rfl) ?_
      refine QL.yes rfl rfl rfl ?_
      refine QL.val rfl (fun w hs => run_load1 ty24 rfl (hs.c1 (v := .pointer (some ⟨bp, 0, none⟩)) rfl)) ?_
      refine QL.yes rfl rfl rfl ?_
      refine QL.enter rfl (fun w => run_call en14 rfl rfl) (fun w hs => width_abs hR ok (Two.live (A := _ :: _ :: Lm) hs)) ?_
      refine QL.yes rfl rfl rfl ?_; refine QL.val rfl (fun w hs => run_move) ?_
      refine QL.yes rfl rfl rfl ?_; refine QL.val rfl (fun w hs => run_nilCheck rfl) ?_
      refine QL.yes rfl rfl rfl ?_; refine QL.val rfl (fun w hs => run_field (o' := 1) Try.underlying64 rfl ty62 rfl rfl rfl) ?_
      refine QL.yes rfl rfl rfl ?_
      refine QL.val rfl (fun w hs => run_load1 ty62 rfl (hs.c1 (v := .pointer (some ⟨br, 0, none⟩)) rfl)) ?_
      refine QL.yes rfl rfl rfl ?_; refine QL.val rfl (fun w hs => run_nilCheck rfl) ?_
      refine QL.yes rfl rfl rfl ?_; refine QL.val rfl (fun w hs => run_field (o' := 0) Try.underlying70 rfl ty3 rfl rfl rfl) ?_
      refine QL.yes rfl rfl rfl ?_
      refine QL.val rfl (fun w hs => run_load1 ty3 rfl ((hcell (Two.rlive (A := _ :: _ :: Lm) hs)).cell (j := 0) rfl)) ?_
      refine QL.yes rfl rfl rfl ?_
      refine QL.val rfl (fun w hs => run_bT (run_eql rfl rfl) (by rfl)) ?_
      refine QL.val rfl (fun w hs => run_pickT rfl) ?_
      refine QL.val rfl (fun w hs => run_assign) ?_
      refine QL.nil (fun w hs => ?_)
      refine CW.ret ?_
      refine fin_ret1 rfl ?_
      have hobt := hfin (D2 := []) hs.tail hI hR hT
      obtain ⟨W', D', hW', hs'⟩ := hobt
      exact ⟨s, W', D', rfl, hW', ok, few.mono (Nat.le_succ _), rfl, hs'⟩
    · cases h
  refine CW.seq ?_
  refine CW.reg ?_
  refine WL.val rfl (run_bF (run_eql rfl rfl) (by exact k8)) ?_
  refine WL.val rfl (run_assign) ?_
  refine WL.nil ?_
  refine CW.cond rfl (fun h => ?_) (fun h => ?_)
  · cases h
  by_cases k9 : x.kind = 9
  · refine CW.seq ?_
    refine CW.reg ?_
    refine WL.val rfl (run_bT (run_eql rfl rfl) (by exact k9)) ?_
    refine WL.val rfl (run_assign) ?_
    refine WL.nil ?_
    refine CW.cond rfl (fun h => ?_) (fun h => ?_)
    · have hg := few.gets
      have hp := few.puts
      refine CW.seq ?_
      refine CW.quiet mixedP (by kernel_rfl) hs ?_
      refine QL.val rfl (fun w hs => run_move) ?_
      refine QL.val rfl (fun w hs => run_nilCheck rfl) ?_
      refine QL.val rfl (fun w hs => run_field (o' := 0) Try.underlying64 rfl ty24 rfl rfl rfl) ?_
      refine QL.val rfl (fun w hs => run_load1 ty24 rfl (hs.c1 (v := .pointer (some ⟨bp, 0, none⟩)) rfl)) ?_
      refine QL.enter rfl (fun w => run_call en34 rfl rfl) (fun w hs => counts_abs hR ok (Two.live (A := _ :: _ :: Lm) hs)) ?_
      refine QL.val rfl (fun w hs => run_move) ?_
      refine QL.val rfl (fun w hs => run_nilCheck rfl) ?_
      refine QL.val rfl (fun w hs => run_field (o' := 1) Try.underlying64 rfl ty62 rfl rfl rfl) ?_
      refine QL.val rfl (fun w hs => run_load1 ty62 rfl (hs.c1 (v := .pointer (some ⟨br, 0, none⟩)) rfl)) ?_
      refine QL.val rfl (fun w hs => run_nilCheck rfl) ?_
      refine QL.val rfl (fun w hs => run_field (o' := 4) Try.underlying70 rfl ty66 rfl rfl rfl) ?_
      refine QL.val rfl (fun w hs => run_loadN ty66 rfl rfl (show At _ br (0 + 4) [.int .i64 (s.gets : Nat), .int .i64 (s.puts : Nat)] from (hcell (Two.rlive (A := _ :: _ :: Lm) hs)).drop 4)) ?_
      refine QL.val rfl (fun w hs => run_eqCnt (by omega) (by omega) rfl rfl) ?_
      refine QL.val rfl (fun w hs => run_assign) ?_
      refine QL.nil (fun w hs => ?_)
      refine CW.ret ?_
      refine fin_ret1 rfl ?_
      have hobt := hfin (D2 := []) hs.tail hI hR hT
      obtain ⟨W', D', hW', hs'⟩ := hobt
      exact ⟨s, W', D', rfl, hW', ok, few.mono (Nat.le_succ _), rfl, hs'⟩
    · cases h
  refine CW.seq ?_
  refine CW.reg ?_
  refine WL.val rfl (run_bF (run_eql rfl rfl) (by exact k9)) ?_
  refine WL.val rfl (run_assign) ?_
  refine WL.nil ?_
  refine CW.cond rfl (fun h => ?_) (fun h => ?_)
  · cases h
  by_cases k10 : x.kind = 10
  · refine CW.seq ?_
    refine CW.reg ?_
    refine WL.val rfl (run_bT (run_eql rfl rfl) (by exact k10)) ?_
    refine WL.val rfl (run_assign) ?_
    refine WL.nil ?_
    refine CW.cond rfl (fun h => ?_) (fun h => ?_)
    · refine CW.seq ?_
      refine CW.quiet mixedP (by kernel_rfl) hs ?_
      refine QL.val rfl (fun w hs => run_move) ?_
      refine QL.val rfl (fun w hs => run_nilCheck rfl) ?_
      refine QL.val rfl (fun w hs => run_field (o' := 0) Try.underlying64 rfl ty24 rfl rfl rfl) ?_
      refine QL.val rfl (fun w hs => run_load1 ty24 rfl (hs.c1 (v := .pointer (some ⟨bp, 0, none⟩)) rfl)) ?_
      refine QL.val rfl (fun w hs => run_move) ?_
      refine QL.val rfl (fun w hs => run_nilCheck rfl) ?_
      refine QL.val rfl (fun w hs => run_field (o' := 1) Try.underlying64 rfl ty62 rfl rfl rfl) ?_
      refine QL.val rfl (fun w hs => run_load1 ty62 rfl (hs.c1 (v := .pointer (some ⟨br, 0, none⟩)) rfl)) ?_
      refine QL.enter rfl (fun w => run_call en33 rfl rfl) (fun w hs => alike_spec hR hT ok (Two.live (A := _ :: _ :: Lm) hs) (Two.rlive (A := _ :: _ :: Lm) hs)) ?_
      refine QL.val rfl (fun w hs => run_assign) ?_
      refine QL.nil (fun w hs => ?_)
      refine CW.ret ?_
      refine fin_ret1 rfl ?_
      have hobt := hfin (D2 := []) hs.tail hI hR hT
      obtain ⟨W', D', hW', hs'⟩ := hobt
      exact ⟨s, W', D', rfl, hW', ok, few.mono (Nat.le_succ _), rfl, hs'⟩
    · cases h
  refine CW.seq ?_
  refine CW.reg ?_
  refine WL.val rfl (run_bF (run_eql rfl rfl) (by exact k10)) ?_
  refine WL.val rfl (run_assign) ?_
  refine WL.nil ?_
  refine CW.cond rfl (fun h => ?_) (fun h => ?_)
  · cases h
  by_cases k11 : x.kind = 11
  · refine CW.seq ?_
    refine CW.reg ?_
    refine WL.val rfl (run_bT (run_eql rfl rfl) (by exact k11)) ?_
    refine WL.val rfl (run_assign) ?_
    refine WL.nil ?_
    refine CW.cond rfl (fun h => ?_) (fun h => ?_)
    · have htw := fun {w1} hl => twin_abs (w0 := w1) hR ok hl
      refine CW.seq ?_
      refine CW.reg ?_
      refine WL.val rfl (run_move) ?_
      refine WL.val rfl (run_move) ?_
      refine WL.val rfl (run_nilCheck rfl) ?_
      refine WL.val rfl (run_field (o' := 0) Try.underlying64 rfl ty24 rfl rfl rfl) ?_
      refine WL.val rfl (run_load1 ty24 rfl (hs.c1 (v := .pointer (some ⟨bp, 0, none⟩)) rfl)) ?_
      refine WL.enter rfl (run_call en37 rfl rfl) (htw (Two.live (A := _ :: _ :: Lm) hs)) ?_
      rintro e w ⟨bt, L2, rfl, hR2, hq⟩
      refine ⟨_, rfl, ?_⟩
      replace hs := Two.keep (A := _ :: _ :: Lm) hs hq
      refine WL.val rfl (run_nilCheck rfl) ?_
      refine WL.val rfl (run_field (o' := 0) Try.underlying64 rfl ty24 rfl rfl rfl) ?_
      refine WL.store1_1 ty24 rfl rfl (rfl) hs (by first | (simp; done) | omega | (simp only [List.length_append, List.length_replicate, List.length_cons, List.length_nil, List.length_set]; omega) | (simp [Ent.cells, u8s]; done) | exact Nat.le_of_ble_eq_true rfl) (fun w hs => ?_)
      refine WL.nil ?_
      refine CW.seq ?_
      refine CW.reg ?_
      refine WL.val rfl (run_move) ?_
      refine WL.val rfl (run_nilCheck rfl) ?_
      refine WL.val rfl (run_field (o' := 0) Try.underlying64 rfl ty24 rfl rfl rfl) ?_
      refine WL.val rfl (run_load1 ty24 rfl (hs.c1 (v := .pointer (some ⟨bt, 0, none⟩)) rfl)) ?_
      refine WL.val rfl (run_ptrNilNe Try.underlying24 rfl rfl) ?_
      refine WL.val rfl (run_assign) ?_
      refine WL.nil ?_
      refine CW.ret ?_
      refine fin_ret1 rfl ?_
      replace hs : Step S ((bw, blk 64 (woC bt br vI)) :: (Lm ++ (L2 ++ (R ++ ([] ++ D))))) w0 w := Own.swap (A := _ :: Lm) (Step.dropMid (A := _ :: Lm) (B := L) hs.tail)
      have hobt := hfin (D2 := []) hs hI hR2 hT
      obtain ⟨W', D', hW', hs'⟩ := hobt
      exact ⟨s, W', D', rfl, hW', ok, few.mono (Nat.le_succ _), rfl, hs'⟩
    · cases h
  refine CW.seq ?_
  refine CW.reg ?_
  refine WL.val rfl (run_bF (run_eql rfl rfl) (by exact k11)) ?_
  refine WL.val rfl (run_assign) ?_
  refine WL.nil ?_
  refine CW.cond rfl (fun h => ?_) (fun h => ?_)
  · cases h
  repeat (first | refine CW.seq ?_ | refine CW.skip ?_)
  refine CW.reg ?_
  refine WL.val rfl (run_assign) ?_
  refine WL.nil ?_
  refine CW.ret ?_
  refine fin_ret1 rfl ?_
  have hobt := hfin (D2 := []) hs.tail hI hR hT
  obtain ⟨W', D', hW', hs'⟩ := hobt
  exact ⟨s, W', D', rfl, hW', ok, few.mono (Nat.le_succ _), rfl, hs'⟩
end
end Go.Gx
/-! PlaysW -/
namespace Go.Gx
open Go.Proofs
set_option linter.unusedVariables false
set_option linter.unusedSimpArgs false
set_option maxRecDepth 100000
attribute [local irreducible] shaL cutD frontL
/-- A new World. -/
theorem made_new {k c : Nat} (hk1 : 1 ≤ k) (hk : k ≤ 32) (hc : c ≤ 67108864) (w0 : World) : Calls Try.prog 31 #[.int .i64 (k : Nat), .int .i64 (c : Nat)] w0 fun e w' => ∃ bw W, e = .returned (.tuple #[.pointer (some ⟨bw, 0, none⟩), .bool true]) ∧ WRep bw (newS k c) [] W ∧ Step [] W w0 w' := by
  refine (made_ok hk1 hk hc w0).mono ?_
  rintro e w' ⟨bw, bp, br, L, R, he, hR, hT, hs⟩
  exact ⟨bw, (bw, blk 64 (woC bp br (.slice none 0 0))) :: ([] ++ (L ++ R)), he, ⟨bp, br, _, [], L, R, rfl, ⟨0, [], OwnSl.nil _ _⟩, hR, hT⟩, hs.perm (List.Perm.cons _ List.perm_append_comm)⟩
/-- A step of a script, called from a law: its World is among the law's own blocks. -/
theorem wstep_new {bw : Nat} {s : AS} {D W A : List (Nat × Obj)} {n : Nat} {x : Stp} {w0 w : World} (hW : WRep bw s D W) (ok : s.Ok) (few : s.Few n) (hn : n < 1099511627775) (hs : Step [] (A ++ (W ++ D)) w0 w) (hx : x.Ok w0) :
    Calls Try.prog 32 #[.pointer (some ⟨bw, 0, none⟩), .agg x.cells.toArray] w (WPost bw s D W n w) :=
  wstep_spec hW ok few hn (Own.live hs) (hx.stepE hs (.inr (outside_nil _)) (.inr (outside_nil _)))
    (OutE.new (L := W ++ D) hs hx.hb (.inr (outside_nil _)) fun p hp => List.mem_append_right _ hp) (OutE.new (L := W ++ D) hs hx.hc (.inr (outside_nil _)) fun p hp => List.mem_append_right _ hp)
set_option maxHeartbeats 4000000 in
theorem casplays_spec {wd cp : Int} {vl : Value} {l : List Stp} (w0 : World) (hl : Stps w0 vl l) :
    Calls Try.prog 7 #[.int .i64 wd, .int .i64 cp, vl] w0 (Ret0 (.bool true) w0) := by
  have hs : Step [] [] w0 w0 := Step.refl w0
  have hobt := hl.sl.form
  obtain ⟨al, cl, rfl⟩ := hobt
  have hll := hl.len
  by_cases hbad : (wd < 1 ∨ 32 < wd) ∨ ¬ (0 ≤ cp ∧ cp ≤ 67108864)
  · refine calls (n := 67) Try.func7 rfl rfl rfl ?_
    refine CW.seq ?_
    refine CW.reg ?_
    refine WL.val rfl (run_assign) ?_
    refine WL.nil ?_
    refine CW.seq ?_
    refine CW.reg ?_
    refine WL.val rfl (run_move) ?_
    refine WL.val rfl (run_move) ?_
    refine WL.enter rfl (run_call en31 rfl rfl) (made_bad hbad _) ?_
    rintro e w ⟨rfl, hq⟩
    refine ⟨_, rfl, ?_⟩
    replace hs := hs.callE hq
    refine WL.val rfl (run_move) ?_
    refine WL.val rfl (run_extract rfl rfl) ?_
    refine WL.val rfl (run_extract rfl rfl) ?_
    refine WL.val rfl (run_assign) ?_
    refine WL.val rfl (run_assign) ?_
    refine WL.nil ?_
    refine CW.seq <| CW.seq ?_
    refine CW.reg ?_
    refine WL.val rfl (run_move) ?_
    refine WL.val rfl (run_not rfl) ?_
    refine WL.val rfl (run_move) ?_
    refine WL.yes rfl rfl rfl ?_; refine WL.val rfl (run_move) ?_
    refine WL.yes rfl rfl rfl ?_
    refine WL.val rfl (run_nilNil Try.underlying57 rfl rfl) ?_
    refine WL.val rfl (run_pickF rfl) ?_
    refine WL.nil ?_
    refine CW.cond rfl (fun h => ?_) (fun h => ?_)
    · refine CW.seq ?_
      refine CW.reg ?_
      refine WL.val rfl (run_move) ?_
      refine WL.val rfl (run_assign) ?_
      refine WL.nil ?_
      refine CW.ret ?_
      refine fin_ret1 rfl ?_
      exact ⟨rfl, hs⟩
    · cases h
  · have hobt : ∃ k : Nat, wd = k := ⟨wd.toNat, by omega⟩
    obtain ⟨k, rfl⟩ := hobt
    have hobt : ∃ c : Nat, cp = c := ⟨cp.toNat, by omega⟩
    obtain ⟨c, rfl⟩ := hobt
    have hk1 : 1 ≤ k := by omega
    have hk2 : k ≤ 32 := by omega
    have hc2 : c ≤ 67108864 := by omega
    refine calls (n := 67) Try.func7 rfl rfl rfl ?_
    refine CW.seq ?_
    refine CW.reg ?_
    refine WL.val rfl (run_assign) ?_
    refine WL.nil ?_
    refine CW.seq ?_
    refine CW.reg ?_
    refine WL.val rfl (run_move) ?_
    refine WL.val rfl (run_move) ?_
    refine WL.enter rfl (run_call en31 rfl rfl) (made_new hk1 hk2 hc2 _) ?_
    rintro e w ⟨bw, W1, rfl, hW, hq⟩
    refine ⟨_, rfl, ?_⟩
    replace hs := hs.callAll0 hq
    refine WL.val rfl (run_move) ?_
    refine WL.val rfl (run_extract rfl rfl) ?_
    refine WL.val rfl (run_extract rfl rfl) ?_
    refine WL.val rfl (run_assign) ?_
    refine WL.val rfl (run_assign) ?_
    refine WL.nil ?_
    refine CW.seq <| CW.seq ?_
    refine CW.reg ?_
    refine WL.val rfl (run_move) ?_
    refine WL.val rfl (run_not rfl) ?_
    refine WL.val rfl (run_move) ?_
    refine WL.yes rfl rfl rfl ?_; refine WL.val rfl (run_move) ?_
    refine WL.yes rfl rfl rfl ?_
    refine WL.val rfl (run_ptrNil Try.underlying57 rfl rfl) ?_
    refine WL.val rfl (run_pickF rfl) ?_
    refine WL.nil ?_
    refine CW.cond rfl (fun h => ?_) (fun h => ?_)
    · cases h
    repeat (first | refine CW.seq ?_ | refine CW.skip ?_)
    refine CW.reg ?_
    refine WL.val rfl (run_assign) ?_
    refine WL.nil ?_
    refine CW.block ?_
    refine CW.loop (fun m f w' => ∃ i s W D, i ≤ l.length ∧ i ≤ 300 ∧ m = 300 - i ∧ WRep bw s D W ∧ s.Ok ∧ s.Few i ∧ Step [] (W ++ D) w0 w' ∧ Holds f [(2, .slice al l.length cl), (7, .pointer (some ⟨bw, 0, none⟩)), (9, .int .i64 (i : Nat))]) (m := 300) ?_ ?_
    · exact ⟨0, _, W1, [], Nat.zero_le _, Nat.zero_le _, rfl, hW, newS_ok hk1 hk2 hc2, newS_few, by rw [List.append_nil]; exact hs, rfl, rfl, rfl, trivial⟩
    · rintro m f w ⟨i, s, W, D, hi1, hi3, rfl, hW, ok, few, hs, hf⟩
      have hobt := hf.chain
      obtain ⟨g, rfl⟩ := hobt
      by_cases hlt : i < l.length
      · by_cases h300 : i < 300
        · have hobt : ∃ x, l[i]? = some x := ⟨_, List.getElem?_eq_getElem hlt⟩
          obtain ⟨x, hx⟩ := hobt
          have hxo := hl.ok x (List.mem_of_getElem? hx)
          have hobt := hl.at hx
          obtain ⟨b, off, c0, hc0, hat⟩ := hobt
          cases hc0
          have hx3 := Stp.cells_len hxo
          refine CW.seq <| CW.seq ?_
          refine CW.reg ?_
          refine WL.val rfl (run_move) ?_
          refine WL.val rfl (run_move) ?_
          refine WL.val rfl (run_lenSl Try.underlying46 rfl) ?_
          refine WL.val rfl (run_bT (run_lss rfl rfl) (by omega)) ?_
          refine WL.val rfl (run_move) ?_
          refine WL.yes rfl rfl rfl ?_; refine WL.val rfl (run_move) ?_
          refine WL.yes rfl rfl rfl ?_
          refine WL.val rfl (run_bT (run_lss rfl rfl) (by omega)) ?_
          refine WL.val rfl (run_pickT rfl) ?_
          refine WL.nil ?_
          refine CW.cond rfl (fun h => ?_) (fun h => ?_)
          · repeat (first | refine CW.seq ?_ | refine CW.block ?_ | refine CW.skip ?_)
            refine CW.reg ?_
            refine WL.val rfl (run_move) ?_
            refine WL.val rfl (run_move) ?_
            refine WL.val rfl (run_move) ?_
            refine WL.val rfl (run_ixSlN Try.underlying46 ty48 rfl rfl (by omega)) ?_
            refine WL.val rfl (run_loadN ty48 rfl hx3 (hat.step hs (by simp))) ?_
            refine WL.enter rfl (run_call en32 rfl rfl) (wstep_new (A := []) hW ok few (by omega) hs hxo) ?_
            rintro e w ⟨s2, W2, D2, rfl, hW2, ok2, few2, hk3, hq⟩
            refine ⟨_, rfl, ?_⟩
            replace hs := Own.put (A := []) hs hq
            refine WL.val rfl (run_not rfl) ?_
            refine WL.nil ?_
            refine CW.cond rfl (fun h => ?_) (fun h => ?_)
            · cases h
            refine CW.skip ?_
            refine CW.reg ?_
            refine WL.val rfl (run_move) ?_
            refine WL.val rfl (run_add (c := ((i + 1 : Nat) : Int)) rfl rfl (by omega) (by omega)) ?_
            refine WL.val rfl (run_assign) ?_
            refine WL.nil ?_
            refine (show _ ∧ _ from ⟨rfl, _, ?_, i + 1, s2, W2, D2 ++ D, by omega, by omega, rfl, hW2, ok2, few2, hs, rfl, rfl, rfl, trivial⟩)
            omega
          · cases h
        · obtain rfl : i = 300 := by omega
          refine CW.seq <| CW.seq ?_
          refine CW.reg ?_
          refine WL.val rfl (run_move) ?_
          refine WL.val rfl (run_move) ?_
          refine WL.val rfl (run_lenSl Try.underlying46 rfl) ?_
          refine WL.val rfl (run_bT (run_lss rfl rfl) (by omega)) ?_
          refine WL.val rfl (run_move) ?_
          refine WL.yes rfl rfl rfl ?_; refine WL.val rfl (run_move) ?_
          refine WL.yes rfl rfl rfl ?_
          refine WL.val rfl (run_bF (run_lss rfl rfl) (by omega)) ?_
          refine WL.val rfl (run_pickT rfl) ?_
          refine WL.nil ?_
          refine CW.cond rfl (fun h => ?_) (fun h => ?_)
          · cases h
          obtain ⟨bp, br, vI, Lm, L, R, rfl, hI, hR, hT⟩ := hW
          replace hs : Step [] ((bw, blk 64 (woC bp br vI)) :: (Lm ++ (L ++ (R ++ D)))) w0 w := hs.perm (by simp [List.append_assoc])
          have hobt := hT.cells
          obtain ⟨ra, rc, hcell⟩ := hobt
          have hg := few.gets
          have hp := few.puts
          repeat (first | refine CW.seq ?_ | refine CW.exit ?_)
          refine CW.quiet mixedP (by kernel_rfl) hs ?_
          refine QL.val rfl (fun w hs => run_move) ?_
          refine QL.val rfl (fun w hs => run_nilCheck rfl) ?_
          refine QL.val rfl (fun w hs => run_field (o' := 0) Try.underlying64 rfl ty24 rfl rfl rfl) ?_
          refine QL.val rfl (fun w hs => run_load1 ty24 rfl (hs.c0 (v := .pointer (some ⟨bp, 0, none⟩)) rfl)) ?_
          refine QL.val rfl (fun w hs => run_move) ?_
          refine QL.val rfl (fun w hs => run_nilCheck rfl) ?_
          refine QL.val rfl (fun w hs => run_field (o' := 1) Try.underlying64 rfl ty62 rfl rfl rfl) ?_
          refine QL.val rfl (fun w hs => run_load1 ty62 rfl (hs.c0 (v := .pointer (some ⟨br, 0, none⟩)) rfl)) ?_
          refine QL.enter rfl (fun w => run_call en33 rfl rfl) (fun w hs => alike_spec hR hT ok (Two.live (A := _ :: Lm) hs) (Two.rlive (A := _ :: Lm) hs)) ?_
          refine QL.val rfl (fun w hs => run_move) ?_
          refine QL.yes rfl rfl rfl ?_; refine QL.val rfl (fun w hs => run_move) ?_
          refine QL.yes rfl rfl rfl ?_; refine QL.val rfl (fun w hs => run_nilCheck rfl) ?_
          refine QL.yes rfl rfl rfl ?_; refine QL.val rfl (fun w hs => run_field (o' := 0) Try.underlying64 rfl ty24 rfl rfl rfl) ?_
          refine QL.yes rfl rfl rfl ?_
          refine QL.val rfl (fun w hs => run_load1 ty24 rfl (hs.c0 (v := .pointer (some ⟨bp, 0, none⟩)) rfl)) ?_
          refine QL.yes rfl rfl rfl ?_
          refine QL.enter rfl (fun w => run_call en34 rfl rfl) (fun w hs => counts_abs hR ok (Two.live (A := _ :: Lm) hs)) ?_
          refine QL.yes rfl rfl rfl ?_; refine QL.val rfl (fun w hs => run_move) ?_
          refine QL.yes rfl rfl rfl ?_; refine QL.val rfl (fun w hs => run_nilCheck rfl) ?_
          refine QL.yes rfl rfl rfl ?_; refine QL.val rfl (fun w hs => run_field (o' := 1) Try.underlying64 rfl ty62 rfl rfl rfl) ?_
          refine QL.yes rfl rfl rfl ?_
          refine QL.val rfl (fun w hs => run_load1 ty62 rfl (hs.c0 (v := .pointer (some ⟨br, 0, none⟩)) rfl)) ?_
          refine QL.yes rfl rfl rfl ?_; refine QL.val rfl (fun w hs => run_nilCheck rfl) ?_
          refine QL.yes rfl rfl rfl ?_; refine QL.val rfl (fun w hs => run_field (o' := 4) Try.underlying70 rfl ty66 rfl rfl rfl) ?_
          refine QL.yes rfl rfl rfl ?_
          refine QL.val rfl (fun w hs => run_loadN ty66 rfl rfl (show At _ br (0 + 4) [.int .i64 (s.gets : Nat), .int .i64 (s.puts : Nat)] from (hcell (Two.rlive (A := _ :: Lm) hs)).drop 4)) ?_
          refine QL.yes rfl rfl rfl ?_
          refine QL.val rfl (fun w hs => run_eqCnt (by omega) (by omega) rfl rfl) ?_
          refine QL.val rfl (fun w hs => run_pickT rfl) ?_
          refine QL.val rfl (fun w hs => run_move) ?_
          refine QL.yes rfl rfl rfl ?_
          refine QL.enter rfl (fun w => run_call en10 rfl rfl) (fun w hs => head_spec _) ?_
          refine QL.val rfl (fun w hs => run_pickT rfl) ?_
          refine QL.val rfl (fun w hs => run_assign) ?_
          refine QL.nil (fun w hs => ?_)
          refine CW.ret ?_
          refine fin_ret1 rfl ?_
          exact ⟨rfl, hs.clear⟩
      · refine CW.seq <| CW.seq ?_
        refine CW.reg ?_
        refine WL.val rfl (run_move) ?_
        refine WL.val rfl (run_move) ?_
        refine WL.val rfl (run_lenSl Try.underlying46 rfl) ?_
        refine WL.val rfl (run_bF (run_lss rfl rfl) (by omega)) ?_
        refine WL.val rfl (run_move) ?_
        refine WL.no rfl rfl rfl (.inl rfl) ?_
        refine WL.no rfl rfl rfl (.inl rfl) ?_
        refine WL.val rfl (run_pickF rfl) ?_
        refine WL.nil ?_
        refine CW.cond rfl (fun h => ?_) (fun h => ?_)
        · cases h
        obtain ⟨bp, br, vI, Lm, L, R, rfl, hI, hR, hT⟩ := hW
        replace hs : Step [] ((bw, blk 64 (woC bp br vI)) :: (Lm ++ (L ++ (R ++ D)))) w0 w := hs.perm (by simp [List.append_assoc])
        have hobt := hT.cells
        obtain ⟨ra, rc, hcell⟩ := hobt
        have hg := few.gets
        have hp := few.puts
        repeat (first | refine CW.seq ?_ | refine CW.exit ?_)
        refine CW.quiet mixedP (by kernel_rfl) hs ?_
        refine QL.val rfl (fun w hs => run_move) ?_
        refine QL.val rfl (fun w hs => run_nilCheck rfl) ?_
        refine QL.val rfl (fun w hs => run_field (o' := 0) Try.underlying64 rfl ty24 rfl rfl rfl) ?_
        refine QL.val rfl (fun w hs => run_load1 ty24 rfl (hs.c0 (v := .pointer (some ⟨bp, 0, none⟩)) rfl)) ?_
        refine QL.val rfl (fun w hs => run_move) ?_
        refine QL.val rfl (fun w hs => run_nilCheck rfl) ?_
        refine QL.val rfl (fun w hs => run_field (o' := 1) Try.underlying64 rfl ty62 rfl rfl rfl) ?_
        refine QL.val rfl (fun w hs => run_load1 ty62 rfl (hs.c0 (v := .pointer (some ⟨br, 0, none⟩)) rfl)) ?_
        refine QL.enter rfl (fun w => run_call en33 rfl rfl) (fun w hs => alike_spec hR hT ok (Two.live (A := _ :: Lm) hs) (Two.rlive (A := _ :: Lm) hs)) ?_
        refine QL.val rfl (fun w hs => run_move) ?_
        refine QL.yes rfl rfl rfl ?_; refine QL.val rfl (fun w hs => run_move) ?_
        refine QL.yes rfl rfl rfl ?_; refine QL.val rfl (fun w hs => run_nilCheck rfl) ?_
        refine QL.yes rfl rfl rfl ?_; refine QL.val rfl (fun w hs => run_field (o' := 0) Try.underlying64 rfl ty24 rfl rfl rfl) ?_
        refine QL.yes rfl rfl rfl ?_
        refine QL.val rfl (fun w hs => run_load1 ty24 rfl (hs.c0 (v := .pointer (some ⟨bp, 0, none⟩)) rfl)) ?_
        refine QL.yes rfl rfl rfl ?_
        refine QL.enter rfl (fun w => run_call en34 rfl rfl) (fun w hs => counts_abs hR ok (Two.live (A := _ :: Lm) hs)) ?_
        refine QL.yes rfl rfl rfl ?_; refine QL.val rfl (fun w hs => run_move) ?_
        refine QL.yes rfl rfl rfl ?_; refine QL.val rfl (fun w hs => run_nilCheck rfl) ?_
        refine QL.yes rfl rfl rfl ?_; refine QL.val rfl (fun w hs => run_field (o' := 1) Try.underlying64 rfl ty62 rfl rfl rfl) ?_
        refine QL.yes rfl rfl rfl ?_
        refine QL.val rfl (fun w hs => run_load1 ty62 rfl (hs.c0 (v := .pointer (some ⟨br, 0, none⟩)) rfl)) ?_
        refine QL.yes rfl rfl rfl ?_; refine QL.val rfl (fun w hs => run_nilCheck rfl) ?_
        refine QL.yes rfl rfl rfl ?_; refine QL.val rfl (fun w hs => run_field (o' := 4) Try.underlying70 rfl ty66 rfl rfl rfl) ?_
        refine QL.yes rfl rfl rfl ?_
        refine QL.val rfl (fun w hs => run_loadN ty66 rfl rfl (show At _ br (0 + 4) [.int .i64 (s.gets : Nat), .int .i64 (s.puts : Nat)] from (hcell (Two.rlive (A := _ :: Lm) hs)).drop 4)) ?_
        refine QL.yes rfl rfl rfl ?_
        refine QL.val rfl (fun w hs => run_eqCnt (by omega) (by omega) rfl rfl) ?_
        refine QL.val rfl (fun w hs => run_pickT rfl) ?_
        refine QL.val rfl (fun w hs => run_move) ?_
        refine QL.yes rfl rfl rfl ?_
        refine QL.enter rfl (fun w => run_call en10 rfl rfl) (fun w hs => head_spec _) ?_
        refine QL.val rfl (fun w hs => run_pickT rfl) ?_
        refine QL.val rfl (fun w hs => run_assign) ?_
        refine QL.nil (fun w hs => ?_)
        refine CW.ret ?_
        refine fin_ret1 rfl ?_
        exact ⟨rfl, hs.clear⟩
end Go.Gx
