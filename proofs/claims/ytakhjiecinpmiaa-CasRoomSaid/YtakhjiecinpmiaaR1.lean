/- A script: an argument of steps, opened. CasFound, plain: what was put stays found. without: walked. found: walked. CasFound, walked. reckoned: walked. CasRoom, plain: what is used. CasRoom, walked: the whole. CasRoomSaid: what is used is what lies there, and 32 bytes each; without a Limit it is never above the capacity: the law returns true, the arguments read as they did; no condition. -/
import Derived.Test.YtakhjiecinpmiaaM6
/-! Script -/
namespace Go.Gx
open Go.Proofs Go.ChangeShapes Go.WideShapes Go.ChangeAt Go.RowKit Go.Deep
open Go.Proofs.Ytakhjiecinpmiaa (Rows.uptoBulk Rows.uptoBulkAll)
set_option linter.unusedVariables false
set_option linter.unusedSimpArgs false
set_option maxRecDepth 100000
/-- A step: its two slices of bytes as values, and what they hold. -/
structure Stp where
  kind : Int
  vb : Value
  b : List UInt8
  vc : Value
  c : List UInt8
  d : List UInt8
  own : Bool
  n : Int
def Stp.cells (x : Stp) : List Value := .int .i64 x.kind :: x.vb :: x.vc :: (u8s x.d ++ [.bool x.own, .int .i64 x.n])
structure Stp.Ok (w : World) (x : Stp) : Prop where
  k1 : -9223372036854775808 ≤ x.kind
  k2 : x.kind ≤ 9223372036854775807
  hb : Sl w 1 x.vb x.b.length (u8s x.b)
  rb : Room x.vb
  lb : x.b.length ≤ 9223372036854775807
  hc : Sl w 1 x.vc x.c.length (u8s x.c)
  rc : Room x.vc
  lc : x.c.length ≤ 9223372036854775807
  hd : x.d.length = 32
  n1 : -9223372036854775808 ≤ x.n
  n2 : x.n ≤ 9223372036854775807
theorem Stp.cells_len {w : World} {x : Stp} (h : x.Ok w) : x.cells.length = 37 := by simp [Stp.cells, u8s, h.hd]
theorem Sl.c1 {w : World} {sz n : Nat} {v : Value} {cs : List Value} (h : Sl w sz v n cs) : v.oneCell' = true := by
  have hobt := h.form
  obtain ⟨a, c, rfl⟩ := hobt
  rfl
theorem Stp.cells1 {w : World} {x : Stp} (h : x.Ok w) : Cells1 x.cells := by
  intro v hv
  simp only [Stp.cells, List.mem_cons, List.mem_append, List.not_mem_nil, or_false] at hv
  rcases hv with rfl | rfl | rfl | hv | rfl | rfl
  · rfl
  · exact h.hb.c1
  · exact h.hc.c1
  · exact Cells1.u8s _ v hv
  · rfl
  · rfl
theorem Stp.get35 {w : World} {x : Stp} (h : x.Ok w) : x.cells[35]? = some (.bool x.own) := by
  show (u8s x.d ++ [.bool x.own, .int .i64 x.n])[32]? = _
  have hl : (u8s x.d).length = 32 := by rw [u8s, List.length_map, h.hd]
  rw [List.getElem?_append_right (by rw [hl]; exact Nat.le_refl _), hl]
  rfl
theorem Stp.get36 {w : World} {x : Stp} (h : x.Ok w) : x.cells[36]? = some (.int .i64 x.n) := by
  show (u8s x.d ++ [.bool x.own, .int .i64 x.n])[33]? = _
  have hl : (u8s x.d).length = 32 := by rw [u8s, List.length_map, h.hd]
  rw [List.getElem?_append_right (by rw [hl]; decide), hl]
  rfl
theorem Stp.atD {w1 w : World} {x : Stp} (hx : x.Ok w1) {b off : Nat} (h : At w b off x.cells) : At w b (off + 3) (u8s x.d) := fun j v hj => by
  have hjl := (List.getElem?_eq_some_iff.1 hj).1
  have h1 : x.cells[3 + j]? = some v := by
    show (Value.int .i64 x.kind :: x.vb :: x.vc :: (u8s x.d ++ [.bool x.own, .int .i64 x.n]))[3 + j]? = _
    rw [show 3 + j = j + 1 + 1 + 1 by omega, List.getElem?_cons_succ, List.getElem?_cons_succ, List.getElem?_cons_succ, List.getElem?_append_left hjl]
    exact hj
  have := h _ _ h1
  rwa [← Nat.add_assoc] at this
def stps (l : List Stp) : List Value := l.flatMap Stp.cells
/-- A script as a value. -/
structure Stps (w : World) (v : Value) (l : List Stp) : Prop where
  sl : Sl w 37 v l.length (stps l)
  ok : ∀ x ∈ l, x.Ok w
  len : l.length ≤ 9223372036854775807
theorem stps_len {w : World} {l : List Stp} (h : ∀ x ∈ l, x.Ok w) : (stps l).length = l.length * 37 := by
  induction l with
  | nil => rfl
  | cons x l ih =>
    have h1 := Stp.cells_len (h x (by simp))
    have h2 := ih fun y hy => h y (by simp [hy])
    rw [stps] at h2
    rw [stps, List.flatMap_cons, List.length_append, h1, h2, List.length_cons]
    omega
theorem stps_at {w : World} : ∀ {l : List Stp} (_ : ∀ x ∈ l, x.Ok w) (i j : Nat) (h : i < l.length), j < 37 → (stps l)[i * 37 + j]? = (l[i].cells)[j]?
  | x :: l, ho, 0, j, _, hj => by
    rw [stps, List.flatMap_cons, Nat.zero_mul, Nat.zero_add, List.getElem?_append_left (by rw [Stp.cells_len (ho x (by simp))]; exact hj)]
    rfl
  | x :: l, ho, i + 1, j, h, hj => by
    rw [stps, List.flatMap_cons, List.getElem?_append_right (by rw [Stp.cells_len (ho x (by simp))]; omega), Stp.cells_len (ho x (by simp)), show (i + 1) * 37 + j - 37 = i * 37 + j by omega]
    have h2 := stps_at (l := l) (fun y hy => ho y (by simp [hy])) i j (by simpa using h) hj
    simpa [stps] using h2
theorem Stps.at {w : World} {v : Value} {l : List Stp} (h : Stps w v l) {i : Nat} {x : Stp} (hx : l[i]? = some x) : ∃ b off c, v = .slice (some ⟨b, off, none⟩) l.length c ∧ At w b (off + i * 37) x.cells := by
  have hobt := List.getElem?_eq_some_iff.1 hx
  obtain ⟨hlt, rfl⟩ := hobt
  have hobt := h.sl
  obtain ⟨hl, ⟨a, c, hc, h1⟩ | ⟨b, off, c, hc, hat⟩⟩ := hobt
  · omega
  · refine ⟨b, off, c, hc, fun j v hj => ?_⟩
    have hj37 : j < 37 := by
      have := (List.getElem?_eq_some_iff.1 hj).1
      rwa [Stp.cells_len (h.ok _ (List.getElem_mem hlt))] at this
    have h1 := stps_at h.ok i j hlt hj37
    rw [Nat.add_assoc]
    exact hat _ _ (h1.trans hj)
theorem choose_any {α : Type} {p : Nat → α → Prop} : ∀ n : Nat, (∀ i, i < n → ∃ x, p i x) → ∃ l : List α, l.length = n ∧ ∀ (i : Nat) (h : i < l.length), p i l[i]
  | 0, _ => ⟨[], rfl, fun i h => by simp at h⟩
  | n + 1, h => by
    have hobt := choose_any n fun i hi => h i (by omega)
    obtain ⟨l, hl, hp⟩ := hobt
    have hobt := h n (by omega)
    obtain ⟨x, hx⟩ := hobt
    refine ⟨l ++ [x], by simp [hl], fun i hi => ?_⟩
    by_cases hin : i < l.length
    · rw [List.getElem_append_left hin]; exact hp i hin
    · have : i = l.length := by simp at hi; omega
      subst this
      simp [hl]
      rw [hl] at *
      exact hx
theorem cell_spot {w : World} {a : Addr} {v : Value} (h : w.cell? a = some v) : a.spot = none := by
  unfold World.cell? at h
  split at h
  · split at h
    · cases h
    · rename_i hs
      cases hsp : a.spot with
      | none => rfl
      | some s => rw [hsp] at hs; simp at hs
  · cases h
theorem cells_spot {w : World} {base n : Nat} {a : Addr} {cs : List Value} (h : w.cells? base a n = some cs) (hn : 0 < n) : a.spot = none := by
  unfold World.cells? at h
  split at h
  · have hobt := mapM_get h
    obtain ⟨h1, h2⟩ := hobt
    rw [List.length_range] at h1
    have h3 := h2 0 (by simpa using hn)
    rw [List.getElem_range, List.getElem?_eq_getElem (by omega)] at h3
    exact cell_spot (a := a.add 0) h3
  · cases h
section
variable {H : Type} {enc : TypeId × Value → H} {w : World} {base : Nat} {spare : Nat → Bool} {held : Bool}
/-- 32 bytes read as an array. -/
theorem trod_dig {fuel : Nat} {cs : List Value} {x : DataW H × List MemPlace} (h : DataW.trod enc Try.prog w base spare held fuel 27 cs = some x) : ∃ d : List UInt8, d.length = 32 ∧ cs = u8s d := by
  have hobt := DataW.trod_array Try.underlying27 h
  obtain ⟨xs, m, rfl, _, hl, hxl, hi⟩ := hobt
  have hl32 : cs.length = 32 := hl.trans ty27.cellsOf
  have each : ∀ (i : Nat) (h : i < cs.length), ∃ c : UInt8, cs[i] = .int .u8 c.toNat := fun i hlt => by
    have h1 := hi i (by omega)
    rw [List.getElem?_eq_getElem (by omega)] at h1
    have hc : Try.prog.cellsOf 5 = 1 := ty5.cellsOf
    rw [hc, Nat.mul_one] at h1
    have hobt := DataW.trod_int Try.underlying5 h1
    obtain ⟨n, hn, _, hw⟩ := hobt
    simp only [Lit.wf, Bool.and_eq_true, decide_eq_true_eq] at hw
    have h0 : (IntKind.u8).min = 0 := by decide
    have h255 : (IntKind.u8).max = 255 := by decide
    rw [h0, h255] at hw
    refine ⟨UInt8.ofNat n.toNat, ?_⟩
    have : cs[i] = .int .u8 n := by
      rw [List.drop_eq_getElem_cons hlt] at hn
      exact (List.cons.inj hn).1
    rw [this, UInt8.toNat_ofNat_of_lt' (show n.toNat < 256 by omega)]
    congr 1
    omega
  refine ⟨(List.range 32).map fun i => if h : i < cs.length then Classical.choose (each i h) else 0, by simp, ?_⟩
  apply List.ext_getElem
  · simp [u8s, hl32]
  · intro i h1 h2
    have := Classical.choose_spec (each i h1)
    simp [u8s, h1]
    exact this
/-- Bytes within data. -/
theorem trod_bytes {fuel : Nat} {cs : List Value} {x : DataW H × List MemPlace} (h : DataW.trod enc Try.prog w base spare held fuel 22 cs = some x) : ∃ v s, cs = [v] ∧ Sl w 1 v s.length (u8s s) ∧ Room v ∧ s.length ≤ 9223372036854775807 := by
  have hc1 : Try.prog.cellsOf 5 = 1 := ty5.cellsOf
  rcases ChangeShapes.open_ints (k := .u8) Try.underlying22 Try.underlying5 hc1 h with ⟨hc, _⟩ | ⟨a, len, cap, zs, hc, _, hlc, hcm, hm, hx, hi, hwf⟩
  · exact ⟨_, [], hc, Sl.nil _ _ _, Nat.le_refl 0, by simp⟩
  · have hmx : maxLen = 9223372036854775807 := by decide
    by_cases h0 : len = 0
    · subst h0
      exact ⟨_, [], hc, ⟨rfl, .inl ⟨_, _, rfl, rfl⟩⟩, Nat.zero_le _, by simp⟩
    have hle : len ≤ zs.length := by rw [hm]; split <;> omega
    have hspot : a.spot = none := cell_spot (a := a.add 0) (hi 0 (by omega))
    obtain ⟨b, off, sp⟩ := a
    simp only at hspot
    subst hspot
    have hval8 : ∀ n ∈ zs, ∃ c : UInt8, n = c.toNat := fun n hn => by
      have hw := hwf n hn
      simp only [Lit.wf, Bool.and_eq_true, decide_eq_true_eq] at hw
      have h0 : (IntKind.u8).min = 0 := by decide
      have h255 : (IntKind.u8).max = 255 := by decide
      rw [h0, h255] at hw
      refine ⟨UInt8.ofNat n.toNat, ?_⟩
      rw [UInt8.toNat_ofNat_of_lt' (show n.toNat < 256 by omega)]
      omega
    have hu : ((zs.take len).map fun n => Value.int .u8 n) = u8s ((zs.take len).map fun n => UInt8.ofNat n.toNat) := by
      unfold u8s
      rw [List.map_map]
      apply List.map_congr_left
      intro n hn
      have hobt := hval8 n (List.mem_of_mem_take hn)
      obtain ⟨c, rfl⟩ := hobt
      simp
    refine ⟨_, (zs.take len).map fun n => UInt8.ofNat n.toNat, hc, ?_, hlc, by simp; omega⟩
    have hl2 : ((zs.take len).map fun n => UInt8.ofNat n.toNat).length = len := by simp; omega
    rw [hl2]
    refine .mk (by simp [u8s]; omega) ?_
    rw [← hu]
    intro j v hj
    rw [List.getElem?_map] at hj
    cases hz : (zs.take len)[j]? with
    | none => rw [hz] at hj; cases hj
    | some n =>
      rw [hz] at hj
      obtain rfl : Value.int .u8 n = v := by simpa using hj
      have hjl : j < len := by
        have := (List.getElem?_eq_some_iff.1 hz).1
        simp at this
        omega
      have h2 := hi j (by omega)
      rw [add_off] at h2
      rw [h2]
      rw [List.getElem?_take, if_pos hjl] at hz
      simp [List.getD, hz]
theorem cells37 {cs : List Value} {k : Int} {vb vc : Value} {d : List UInt8} {o : Bool} {n : Int} (hl : cs.length = 37) (h0 : (cs.drop 0).take 1 = [.int .i64 k]) (h1 : (cs.drop 1).take 1 = [vb]) (h2 : (cs.drop 2).take 1 = [vc]) (h3 : (cs.drop 3).take 32 = u8s d) (h4 : (cs.drop 35).take 1 = [.bool o]) (h5 : (cs.drop 36).take 1 = [.int .i64 n]) :
    cs = .int .i64 k :: vb :: vc :: (u8s d ++ [.bool o, .int .i64 n]) := by
  match cs, hl with
  | a0 :: a1 :: a2 :: r, hl =>
    have hr : r.length = 34 := by simpa using hl
    have e0 : a0 = .int .i64 k := by simpa using h0
    have e1 : a1 = vb := by simpa using h1
    have e2 : a2 = vc := by simpa using h2
    have e3 : r.take 32 = u8s d := by simpa using h3
    have e4 : (r.drop 32).take 1 = [.bool o] := by simpa using h4
    have e5 : (r.drop 33).take 1 = [.int .i64 n] := by simpa using h5
    have e6 : r.drop 32 = (r.drop 32).take 1 ++ (r.drop 33).take 1 := by
      have h6 : (r.drop 33).take 1 = r.drop 33 := List.take_of_length_le (by simp; omega)
      rw [h6]
      have h7 := List.take_append_drop 1 (r.drop 32)
      rw [List.drop_drop] at h7
      exact h7.symm
    rw [e0, e1, e2]
    congr 3
    have h8 := List.take_append_drop 32 r
    rw [e3, e6, e4, e5] at h8
    exact h8.symm
theorem trod_stp {fuel : Nat} {cs : List Value} {x : DataW H × List MemPlace} (h : DataW.trod enc Try.prog w base spare held fuel 48 cs = some x) : ∃ y : Stp, y.Ok w ∧ cs = y.cells := by
  have hobt := DataW.trod_struct Try.underlying48 h
  obtain ⟨xs, m, _, _, hl, hlen, hf⟩ := hobt
  have hl37 : cs.length = 37 := hl.trans ty48.cellsOf
  match xs, hlen with
  | [y0, y1, y2, y3, y4, y5], _ =>
    have f0 := hf 0 _ rfl
    have f1 := hf 1 _ rfl
    have f2 := hf 2 _ rfl
    have f3 := hf 3 _ rfl
    have f4 := hf 4 _ rfl
    have f5 := hf 5 _ rfl
    have hobt := DataW.trod_int Try.underlying3 (f0.trans rfl)
    obtain ⟨k, hk, _, hwk⟩ := hobt
    have hobt := trod_bytes (f1.trans rfl)
    obtain ⟨vb, b, hb, hbs, hbr, hbl⟩ := hobt
    have hobt := trod_bytes (f2.trans rfl)
    obtain ⟨vc, c, hc, hcs, hcr, hcl⟩ := hobt
    have hobt := trod_dig (f3.trans rfl)
    obtain ⟨d, hd, hdd⟩ := hobt
    have hobt := DataW.trod_bool Try.underlying4 (f4.trans rfl)
    obtain ⟨o, ho, _⟩ := hobt
    have hobt := DataW.trod_int Try.underlying3 (f5.trans rfl)
    obtain ⟨n, hn, _, hwn⟩ := hobt
    replace hk : (cs.drop 0).take (Try.prog.cellsOf 3) = [.int .i64 k] := hk
    replace hb : (cs.drop 1).take (Try.prog.cellsOf 22) = [vb] := hb
    replace hc : (cs.drop 2).take (Try.prog.cellsOf 22) = [vc] := hc
    replace hdd : (cs.drop 3).take (Try.prog.cellsOf 27) = u8s d := hdd
    replace ho : (cs.drop 35).take (Try.prog.cellsOf 4) = [.bool o] := ho
    replace hn : (cs.drop 36).take (Try.prog.cellsOf 3) = [.int .i64 n] := hn
    rw [ty3.cellsOf] at hk hn
    rw [ty22.cellsOf] at hb hc
    rw [ty27.cellsOf] at hdd
    rw [ty4.cellsOf] at ho
    simp only [Lit.wf, Bool.and_eq_true, decide_eq_true_eq] at hwk hwn
    have h0 : (IntKind.i64).min = -9223372036854775808 := by decide
    have h255 : (IntKind.i64).max = 9223372036854775807 := by decide
    rw [h0, h255] at hwk hwn
    exact ⟨⟨k, vb, b, vc, c, d, o, n⟩, ⟨hwk.1, hwk.2, hbs, hbr, hbl, hcs, hcr, hcl, hd, hwn.1, hwn.2⟩, cells37 hl37 hk hb hc hdd ho hn⟩
/-- An argument of steps, opened. -/
theorem open_steps {v : Value} {d : DataW H} {ps : List MemPlace} {r : Reach} {b0 : Nat} (hval : Value.okWide Try.prog w r b0 46 v) (h : DataW.Trod enc Try.prog w 0 spare held 46 v d ps) : ∃ l, Stps w v l ∧ Room v ∧ (Rows.uptoBulk d ≤ 1048576 → l.length ≤ 1048576) := by
  obtain ⟨fuel, h⟩ := h
  have hobt := okWide_slice Try.underlying46 hval
  obtain ⟨a0, len, cap, rfl⟩ := hobt
  rcases open_slice Try.underlying46 h with ⟨hc, _⟩ | ⟨a, len', cap', m, n, D, Pl, hc, _, hlc, hcm, hm, hx, hi⟩
  · have : Value.slice a0 len cap = .slice none 0 0 := by simpa [Value.cells] using hc
    cases this
    exact ⟨[], ⟨Sl.nil _ _ _, fun x hx => (by cases hx), by simp⟩, Nat.le_refl 0, fun _ => by simp⟩
  · have : Value.slice a0 len cap = .slice (some a) len' cap' := by simpa [Value.cells] using hc
    cases this
    have hmx : maxLen = 9223372036854775807 := by decide
    have hle : len ≤ m := by rw [hm]; split <;> omega
    have hd : d = (.slice ((List.range len).map D) ((List.range (m - len)).map fun j => D (len + j))) := congrArg Prod.fst hx
    subst hd
    have hlen := bulk_len ((List.range len).map D)
    simp only [List.length_map, List.length_range] at hlen
    have c48 : Try.prog.cellsOf 48 = 37 := ty48.cellsOf
    by_cases h0 : len = 0
    · subst h0
      exact ⟨[], ⟨⟨rfl, .inl ⟨_, _, rfl, rfl⟩⟩, fun x hx => (by cases hx), by simp⟩, hlc, fun _ => by simp⟩
    have hspot : a.spot = none := by
      have hobt := hi 0 (by omega)
      obtain ⟨cs', h1, _⟩ := hobt
      rw [c48] at h1
      exact cells_spot (a := a.add (0 * 37)) h1 (by decide)
    obtain ⟨b, off, sp⟩ := a
    simp only at hspot
    subst hspot
    obtain ⟨l, hl, hp⟩ := choose_any (p := fun i x => Stp.Ok w x ∧ At w b (off + i * 37) x.cells) len fun i hi' => by
      have hobt := hi i (by omega)
      obtain ⟨cs', h1, h2⟩ := hobt
      rw [c48, add_off] at h1
      have hobt := trod_stp h2
      obtain ⟨x, hxo, hxc⟩ := hobt
      exact ⟨x, hxo, hxc ▸ (At.cells h1).2⟩
    have hok : ∀ x ∈ l, x.Ok w := fun x hx => by
      have hobt := List.mem_iff_getElem.1 hx
      obtain ⟨i, hi', rfl⟩ := hobt
      exact (hp i hi').1
    refine ⟨l, ⟨?_, hok, by omega⟩, hlc, fun hb => by simp only [Rows.uptoBulk] at hb; omega⟩
    rw [hl]
    refine .mk (by rw [stps_len hok, hl]) ?_
    intro j v hj
    have hjl := (List.getElem?_eq_some_iff.1 hj).1
    rw [stps_len hok] at hjl
    have hq : j / 37 < l.length := by omega
    have h1 := stps_at hok (j / 37) (j % 37) hq (by omega)
    rw [show j / 37 * 37 + j % 37 = j by omega, hj] at h1
    have h2 := (hp _ hq).2 _ _ h1.symm
    rwa [show off + j / 37 * 37 + j % 37 = off + j by omega] at h2
end
end Go.Gx
/-! Found1 -/
namespace Go.Gx
open Go.Proofs
set_option linter.unusedVariables false
set_option linter.unusedSimpArgs false
set_option maxRecDepth 100000
attribute [local irreducible] shaL cutD frontL
theorem findX_of_mem {X : List Blb} (hX : SortedX X) {d : List UInt8} {b : Blb} (hb : b ∈ X) (hd : b.d = d) : findX d X = some b := by
  subst hd
  exact findX_mem hX.nodup hb
theorem findX_ins_ne {b : Blb} {X : List Blb} (h : SortedX X) {d : List UInt8} {c : Blb} (hd : b.d ≠ d) (hf : findX d X = some c) : findX d (insX b X) = some c := by
  have hobt := findX_some hf
  obtain ⟨h1, h2⟩ := hobt
  refine findX_of_mem (insX_sorted b h) ((insX_perm b h).mem_iff.2 (List.mem_cons_of_mem _ ?_)) h2
  exact List.mem_filter.2 ⟨h1, by simp only [decide_eq_true_eq]; rw [h2]; exact fun e => hd e.symm⟩
theorem findX_del_ne {X : List Blb} (h : SortedX X) {d e : List UInt8} {c : Blb} (hd : e ≠ d) (hf : findX e X = some c) : findX e (delX d X) = some c := by
  have hobt := findX_some hf
  obtain ⟨h1, h2⟩ := hobt
  exact findX_of_mem (delX_sorted h d) (List.mem_filter.2 ⟨h1, by simp only [decide_eq_true_eq]; rw [h2]; exact hd⟩) h2
theorem lay_some {s s' : AS} {d x : List UInt8} (h : s.lay d x = some s') : s' = ⟨s.k, s.cap, s.last + 1, s.gets, s.puts, insX ⟨d, x, s.last + 1⟩ s.X⟩ := by
  unfold AS.lay at h
  split at h
  · exact (Option.some.inj h).symm
  · cases h
/-- A Put: what can come of it. -/
theorem put_cases (s : AS) (y : List UInt8) : ((s.put y).2.1 ≠ 0 ∧ (s.put y).2.2.X = s.X ∧ (s.put y).1 = zD) ∨
    ((s.put y).2.1 = 0 ∧ (s.put y).1 = frontL y s.k ∧ (s.put y).2.2.X = s.X ∧ ∃ b, findX (frontL y s.k) s.X = some b ∧ b.x = y) ∨
    ((s.put y).2.1 = 0 ∧ (s.put y).1 = frontL y s.k ∧ (∀ b, findX (frontL y s.k) s.X = some b → frontL b.x s.k ≠ frontL y s.k) ∧ ∃ st, (s.put y).2.2.X = insX ⟨frontL y s.k, y, st⟩ s.X) := by
  have hgo : ∀ r : List UInt8 × Nat × AS, (∀ b, findX (frontL y s.k) s.X = some b → frontL b.x s.k ≠ frontL y s.k) → r = (match ({ s with puts := s.puts + 1 } : AS).lay (frontL y s.k) y with | some s2 => (frontL y s.k, 0, s2) | none => (zD, 43, { s with puts := s.puts + 1 })) →
      (r.2.1 ≠ 0 ∧ r.2.2.X = s.X ∧ r.1 = zD) ∨ (r.2.1 = 0 ∧ r.1 = frontL y s.k ∧ r.2.2.X = s.X ∧ ∃ b, findX (frontL y s.k) s.X = some b ∧ b.x = y) ∨ (r.2.1 = 0 ∧ r.1 = frontL y s.k ∧ (∀ b, findX (frontL y s.k) s.X = some b → frontL b.x s.k ≠ frontL y s.k) ∧ ∃ st, r.2.2.X = insX ⟨frontL y s.k, y, st⟩ s.X) := by
    intro r hn hr
    cases hl : ({ s with puts := s.puts + 1 } : AS).lay (frontL y s.k) y with
    | none => rw [hl] at hr; subst hr; exact .inl ⟨by simp, rfl, rfl⟩
    | some s2 =>
      rw [hl] at hr
      subst hr
      refine .inr (.inr ⟨rfl, rfl, hn, s.last + 1, ?_⟩)
      rw [lay_some hl]
  unfold AS.put
  simp only
  by_cases hlong : 1048576 < y.length
  · rw [if_pos hlong]; exact .inl ⟨by simp, rfl, rfl⟩
  · rw [if_neg hlong]
    cases hf : findX (frontL y s.k) s.X with
    | none => rw [hf] at hgo; exact hgo _ (fun b h => by cases h) rfl
    | some b =>
      rw [hf] at hgo
      simp only
      by_cases hxy : b.x = y
      · rw [if_pos hxy]; exact .inr (.inl ⟨rfl, rfl, rfl, b, rfl, hxy⟩)
      · rw [if_neg hxy]
        by_cases hw : frontL b.x s.k = frontL y s.k
        · rw [if_pos hw]; exact .inl ⟨by simp, rfl, rfl⟩
        · rw [if_neg hw]
          exact hgo _ (fun c h => by obtain rfl := Option.some.inj h; exact hw) rfl
/-- A plant: what can come of it. -/
theorem plant_cases (s : AS) (d y : List UInt8) : ((s.plant d y).1 ≠ 0 ∧ (s.plant d y).2 = s) ∨ ((s.plant d y).1 = 0 ∧ (s.plant d y).2 = ⟨s.k, s.cap, s.last + 1, s.gets, s.puts, insX ⟨d, y, s.last + 1⟩ s.X⟩) := by
  unfold AS.plant
  split
  · exact .inl ⟨by simp, rfl⟩
  · split
    · exact .inl ⟨by simp, rfl⟩
    · cases hl : s.lay d y with
      | none => exact .inl ⟨by simp, rfl⟩
      | some s2 => exact .inr ⟨rfl, lay_some hl⟩
theorem plant_k (s : AS) (d y : List UInt8) : (s.plant d y).2.k = s.k := by
  rcases plant_cases s d y with ⟨_, h⟩ | ⟨_, h⟩ <;> rw [h]
theorem limit_X (s : AS) (c : Int) : (s.limit c).2.X = s.X ∧ (s.limit c).2.k = s.k := by
  unfold AS.limit
  split <;> exact ⟨rfl, rfl⟩
/-- What is found in a Store: these bytes, whole. -/
def Has (k : Nat) (X : List Blb) (d x : List UInt8) : Prop := ∃ st, findX d X = some ⟨d, x, st⟩ ∧ frontL x k = d
/-- Puts that were answered OK: where their bytes lie, and that they are found. -/
def Good (w0 : World) (k : Nat) (X : List Blb) (Q : List Row) : Prop := ∀ r ∈ Q, ∃ x, Sl w0 1 r.v x.length (u8s x) ∧ Room r.v ∧ x.length ≤ 8192 ∧ Has k X r.d x
section
variable {w0 : World} {s : AS} {Q : List Row} {d y : List UInt8}
theorem Good.nil (k : Nat) (X : List Blb) : Good w0 k X [] := fun r hr => by cases hr
theorem Good.put (ok : s.Ok) (h : Good w0 s.k s.X Q) (y : List UInt8) : Good w0 s.k (s.put y).2.2.X Q := by
  rcases put_cases s y with ⟨_, e, _⟩ | ⟨_, _, e, _⟩ | ⟨_, _, hn, st, e⟩
  · rw [e]; exact h
  · rw [e]; exact h
  · rw [e]
    intro r hr
    have hobt := h r hr
    obtain ⟨x, h1, h2, h3, st', h4, h5⟩ := hobt
    refine ⟨x, h1, h2, h3, st', findX_ins_ne ok.sorted (fun e => ?_) h4, h5⟩
    have e' : frontL y s.k = r.d := e
    rw [← e'] at h4 h5
    exact hn _ h4 h5
theorem Good.add (ok : s.Ok) (h : Good w0 s.k s.X Q) (h0 : (s.put y).2.1 = 0) {r : Row} (hr : r.d = frontL y s.k) (hv : Sl w0 1 r.v y.length (u8s y)) (hro : Room r.v) (hy : y.length ≤ 8192) : Good w0 s.k (s.put y).2.2.X (Q ++ [r]) := by
  intro q hq
  rcases List.mem_append.1 hq with hq | hq
  · exact h.put ok y q hq
  · obtain rfl := List.mem_singleton.1 hq
    refine ⟨y, hv, hro, hy, ?_⟩
    rcases put_cases s y with ⟨e, _⟩ | ⟨_, _, e, b, hb, hbx⟩ | ⟨_, _, hn, st, e⟩
    · exact absurd h0 e
    · rw [e, hr]
      have hbd := (findX_some hb).2
      obtain ⟨bd, bx, bst⟩ := b
      simp only at hbx hbd
      subst hbx hbd
      exact ⟨bst, hb, rfl⟩
    · rw [e, hr]
      exact ⟨st, findX_ins (b := ⟨frontL y s.k, y, st⟩) ok.sorted, rfl⟩
theorem Good.ins (ok : s.Ok) (h : Good w0 s.k s.X Q) (x : List UInt8) (st : Nat) : Good w0 s.k (insX ⟨d, x, st⟩ s.X) (Q.filter fun r => decide (r.d ≠ d)) := by
  intro r hr
  have hobt := List.mem_filter.1 hr
  obtain ⟨h1, h2⟩ := hobt
  have hne : r.d ≠ d := of_decide_eq_true h2
  have hobt := h r h1
  obtain ⟨x, h3, h4, h5, st', h6, h7⟩ := hobt
  exact ⟨x, h3, h4, h5, st', findX_ins_ne ok.sorted (fun e => hne e.symm) h6, h7⟩
theorem Good.del (ok : s.Ok) (h : Good w0 s.k s.X Q) : Good w0 s.k (delX d s.X) (Q.filter fun r => decide (r.d ≠ d)) := by
  intro r hr
  have hobt := List.mem_filter.1 hr
  obtain ⟨h1, h2⟩ := hobt
  have hne : r.d ≠ d := of_decide_eq_true h2
  have hobt := h r h1
  obtain ⟨x, h3, h4, h5, st', h6, h7⟩ := hobt
  exact ⟨x, h3, h4, h5, st', findX_del_ne ok.sorted hne h6, h7⟩
/-- What is found, asked. -/
theorem Has.get {x : List UInt8} (h : Has s.k s.X d x) : s.get d = (x, 0) := by
  obtain ⟨st, h1, h2⟩ := h
  unfold AS.get
  rw [h1]
  simp only
  rw [if_pos h2]
theorem Has.whole {x : List UInt8} (h : Has s.k s.X d x) : s.whole d = true := by
  obtain ⟨st, h1, h2⟩ := h
  unfold AS.whole
  rw [h1]
  exact decide_eq_true h2
theorem Has.put {x : List UInt8} (h : Has s.k s.X d x) (hx : x.length ≤ 8192) : s.put x = (d, 0, ⟨s.k, s.cap, s.last, s.gets, s.puts + 1, s.X⟩) := by
  obtain ⟨st, h1, h2⟩ := h
  unfold AS.put
  simp only
  rw [if_neg (by omega), h2, h1]
  simp only
  rw [if_pos trivial]
end
end Go.Gx
/-! Found2 -/
namespace Go.Gx
open Go.Proofs
set_option linter.unusedVariables false
set_option linter.unusedSimpArgs false
set_option maxRecDepth 100000
attribute [local irreducible] shaL cutD frontL
theorem Step.dropX {S : List Nat} {p : Nat × Obj} {A B : List (Nat × Obj)} {w0 w : World} (h : Step S (A ++ p :: B) w0 w) : Step S (A ++ B) w0 w := (h.perm List.perm_middle).tail
/-- Those of other digests. -/
def outQ (d : List UInt8) (Q : List Row) : List Row := Q.filter fun r => decide (r.d ≠ d)
theorem outQ_len (d : List UInt8) (Q : List Row) : (outQ d Q).length ≤ Q.length := List.length_filter_le _ _
theorem outQ_snoc_eq {d : List UInt8} {Q : List Row} {r : Row} (h : r.d = d) : outQ d (Q ++ [r]) = outQ d Q := by simp [outQ, h]
theorem outQ_snoc_ne {d : List UInt8} {Q : List Row} {r : Row} (h : r.d ≠ d) : outQ d (Q ++ [r]) = outQ d Q ++ [r] := by simp [outQ, h]
theorem Sl.rowAt {w : World} {a : Option Addr} {n c i : Nat} {R : List Row} {r : Row} (h : Sl w 33 (.slice a n c) R.length (rowsR R)) (hr : R[i]? = some r) : ∃ b off, a = some ⟨b, off, none⟩ ∧ At w b (off + i * 33) r.enc := by
  have hlt := (List.getElem?_eq_some_iff.1 hr).1
  obtain ⟨hl, ⟨a, c, hc, h1⟩ | ⟨b, off, c, hc, hat⟩⟩ := h
  · omega
  · cases hc
    exact ⟨b, off, rfl, hat.row hr⟩
theorem At.fst {w : World} {b off : Nat} {r : Row} (h : At w b off r.enc) : At w b off (u8s r.d) := by
  have h1 := h.take 32
  rwa [row_fst] at h1
theorem without_spec {v : Value} {Q : List Row} {d : List UInt8} (w0 : World) (hQ : Sl w0 33 v Q.length (rowsR Q)) (hd : d.length = 32) (hn : Q.length ≤ 1000000) :
    Calls Try.prog 28 #[v, .agg (u8s d).toArray] w0 fun e w' => ∃ v' Lv, e = .returned v' ∧ OwnSl 53 33 v' (outQ d Q).length (rowsR (outQ d Q)) Lv ∧ Step [] Lv w0 w' := by
  have hs : Step [] [] w0 w0 := Step.refl w0
  have hdl : (u8s d).length = 32 := by rw [u8s, List.length_map, hd]
  have hobt := hQ.form
  obtain ⟨a, c, rfl⟩ := hobt
  refine calls (n := 28) Try.func28 rfl rfl rfl ?_
  refine CW.seq ?_
  refine CW.reg ?_
  refine WL.box (cs := u8s d) rfl rfl rfl hs (fun b3 w hs => ?_)
  refine WL.val rfl (run_assign) ?_
  refine WL.nil ?_
  refine CW.seq ?_
  refine CW.reg ?_
  refine WL.val rfl (run_assign) ?_
  refine WL.nil ?_
  refine CW.seq <| CW.seq ?_
  refine CW.reg ?_
  refine WL.val rfl (run_assign) ?_
  refine WL.nil ?_
  refine CW.block ?_
  refine CW.loop (fun m f w' => ∃ i vo Lo, i ≤ Q.length ∧ m = Q.length - i ∧ OwnSl 53 33 vo (outQ d (Q.take i)).length (rowsR (outQ d (Q.take i))) Lo ∧ Step [] (Lo ++ [(b3, blk 27 (u8s d))]) w0 w' ∧ Holds f [(0, .slice a Q.length c), (3, .pointer (some ⟨b3, 0, none⟩)), (5, vo), (6, .int .i64 (i : Nat))]) (m := Q.length) ?_ ?_
  · exact ⟨0, _, [], Nat.zero_le _, rfl, OwnSl.nil _ _, hs, rfl, rfl, rfl, rfl, trivial⟩
  · rintro m f w ⟨i, vo, Lo, hi, rfl, hvo, hs, hf⟩
    have hobt := hf.chain
    obtain ⟨g, rfl⟩ := hobt
    by_cases hlt : i < Q.length
    · have hobt : ∃ r, Q[i]? = some r := ⟨_, List.getElem?_eq_getElem hlt⟩
      obtain ⟨r, hr⟩ := hobt
      have hobt := hQ.rowAt hr
      obtain ⟨b, off, rfl, hat⟩ := hobt
      have hrl : (u8s r.d).length = 32 := by rw [u8s, List.length_map, r.hd]
      have e0 : Q.take (i + 1) = Q.take i ++ [r] := by rw [List.take_add_one, hr]; rfl
      have hat' : ∀ {w : World}, Step [] (Lo ++ [(b3, blk 27 (u8s d))]) w0 w → At w b (off + i * 33) r.enc := fun h => hat.step h (by simp)
      have hol := outQ_len d (Q.take i)
      have htl : (Q.take i).length ≤ Q.length := List.length_take_le' _ _
      by_cases hrd : r.d = d
      · refine CW.seq <| CW.seq ?_
        refine CW.reg ?_
        refine WL.val rfl (run_move) ?_
        refine WL.val rfl (run_move) ?_
        refine WL.val rfl (run_lenSl Try.underlying51 rfl) ?_
        refine WL.val rfl (run_bT (run_lss rfl rfl) (by omega)) ?_
        refine WL.nil ?_
        refine CW.cond rfl (fun h => ?_) (fun h => ?_)
        · repeat (first | refine CW.seq ?_ | refine CW.block ?_ | refine CW.skip ?_)
          refine CW.quiet mixedP (by kernel_rfl) hs ?_
          refine QL.val rfl (fun w hs => run_move) ?_
          refine QL.val rfl (fun w hs => run_move) ?_
          refine QL.val rfl (fun w hs => run_ixSlN Try.underlying51 ty53 rfl rfl (by omega)) ?_
          refine QL.val rfl (fun w hs => run_field (o' := 0) Try.underlying53 rfl ty27 rfl rfl rfl) ?_
          refine QL.val rfl (fun w hs => run_loadN ty27 rfl hrl (hat' hs).fst) ?_
          refine QL.val rfl (fun w hs => run_loadN ty27 rfl hdl (hs.dropL).a0) ?_
          refine QL.val rfl (fun w hs => run_bF (run_neDig r.hd hd rfl rfl) (fun h => h hrd)) ?_
          refine QL.nil (fun w hs => ?_)
          refine CW.cond rfl (fun h2 => ?_) (fun h2 => ?_)
          · cases h2
          · refine CW.skip ?_
            refine CW.reg ?_
            refine WL.val rfl (run_move) ?_
            refine WL.val rfl (run_add (c := ((i + 1 : Nat) : Int)) rfl rfl (by omega) (by omega)) ?_
            refine WL.val rfl (run_assign) ?_
            refine WL.nil ?_
            refine (show _ ∧ _ from ⟨rfl, _, ?_, i + 1, vo, Lo, hlt, rfl, by rw [e0, outQ_snoc_eq hrd]; exact hvo, hs, rfl, rfl, rfl, rfl, trivial⟩)
            omega
        · cases h
      · refine CW.seq <| CW.seq ?_
        refine CW.reg ?_
        refine WL.val rfl (run_move) ?_
        refine WL.val rfl (run_move) ?_
        refine WL.val rfl (run_lenSl Try.underlying51 rfl) ?_
        refine WL.val rfl (run_bT (run_lss rfl rfl) (by omega)) ?_
        refine WL.nil ?_
        refine CW.cond rfl (fun h => ?_) (fun h => ?_)
        · repeat (first | refine CW.seq ?_ | refine CW.block ?_ | refine CW.skip ?_)
          refine CW.quiet mixedP (by kernel_rfl) hs ?_
          refine QL.val rfl (fun w hs => run_move) ?_
          refine QL.val rfl (fun w hs => run_move) ?_
          refine QL.val rfl (fun w hs => run_ixSlN Try.underlying51 ty53 rfl rfl (by omega)) ?_
          refine QL.val rfl (fun w hs => run_field (o' := 0) Try.underlying53 rfl ty27 rfl rfl rfl) ?_
          refine QL.val rfl (fun w hs => run_loadN ty27 rfl hrl (hat' hs).fst) ?_
          refine QL.val rfl (fun w hs => run_loadN ty27 rfl hdl (hs.dropL).a0) ?_
          refine QL.val rfl (fun w hs => run_bT (run_neDig r.hd hd rfl rfl) hrd) ?_
          refine QL.nil (fun w hs => ?_)
          refine CW.cond rfl (fun h2 => ?_) (fun h2 => ?_)
          · skip
            refine CW.reg ?_
            refine WL.val rfl (run_move) ?_
            refine WL.val rfl (run_move) ?_
            refine WL.val rfl (run_move) ?_
            refine WL.val rfl (run_ixSlN Try.underlying51 ty53 rfl rfl (by omega)) ?_
            refine WL.val rfl (run_loadN ty53 rfl r.enc_len (hat' hs)) ?_
            refine WL.buildSlice (cs := r.enc) Try.underlying51 ty53 rfl (by decide) rfl (filled1 r.enc_len rfl) rfl hs (fun b25 w hs => ?_)
            have hsl : Sl w 33 (.slice (some ⟨b25, 0, none⟩) 1 1) 1 r.enc := .own1 hs (by rw [r.enc_len])
            refine WL.append Try.underlying51 Try.underlying51 ty53 rfl (by decide) rfl rfl (hvo) (Step.perm hs List.perm_middle.symm) (hsl) (r.enc1) (by first | omega | (simp only [List.length_append, List.length_cons, List.length_nil]; omega)) rfl (fun v26 Lv26 w hv26 hs => ?_)
            refine WL.val rfl (run_assign) ?_
            refine WL.nil ?_
            have e1 : (outQ d (Q.take i)).length + 1 = (outQ d (Q.take (i + 1))).length := by rw [e0, outQ_snoc_ne hrd]; simp
            have e2 : rowsR (outQ d (Q.take i)) ++ r.enc = rowsR (outQ d (Q.take (i + 1))) := by rw [e0, outQ_snoc_ne hrd]; exact (rowsR_snoc _ r).symm
            rw [e1, e2] at hv26
            refine CW.reg ?_
            refine WL.val rfl (run_move) ?_
            refine WL.val rfl (run_add (c := ((i + 1 : Nat) : Int)) rfl rfl (by omega) (by omega)) ?_
            refine WL.val rfl (run_assign) ?_
            refine WL.nil ?_
            refine (show _ ∧ _ from ⟨rfl, _, ?_, i + 1, v26, Lv26, hlt, rfl, hv26, ?_, rfl, rfl, rfl, rfl, trivial⟩)
            · omega
            · exact hs.dropX
          · cases h2
        · cases h
    · obtain rfl : i = Q.length := by omega
      refine CW.seq <| CW.seq ?_
      refine CW.reg ?_
      refine WL.val rfl (run_move) ?_
      refine WL.val rfl (run_move) ?_
      refine WL.val rfl (run_lenSl Try.underlying51 rfl) ?_
      refine WL.val rfl (run_bF (run_lss rfl rfl) (by omega)) ?_
      refine WL.nil ?_
      refine CW.cond rfl (fun h => ?_) (fun h => ?_)
      · cases h
      repeat (first | refine CW.seq ?_ | refine CW.exit ?_)
      refine CW.reg ?_
      refine WL.val rfl (run_move) ?_
      refine WL.val rfl (run_assign) ?_
      refine WL.nil ?_
      refine CW.ret ?_
      refine fin_ret1 rfl ?_
      refine ⟨vo, Lo, rfl, ?_, hs.dropR⟩
      rwa [List.take_length] at hvo
end Go.Gx
/-! Found3 -/
namespace Go.Gx
open Go.Proofs
set_option linter.unusedVariables false
set_option linter.unusedSimpArgs false
set_option maxRecDepth 100000
attribute [local irreducible] shaL cutD frontL
theorem row_v {r : Row} {w : World} {b off : Nat} (h : At w b off r.enc) : w.cell? ⟨b, off + 32, none⟩ = some r.v := h.cell (row_snd r)
theorem Good.at {w0 : World} {k : Nat} {X : List Blb} {Q : List Row} (h : Good w0 k X Q) {i : Nat} {r : Row} (hr : Q[i]? = some r) : ∃ x, Sl w0 1 r.v x.length (u8s x) ∧ Room r.v ∧ x.length ≤ 8192 ∧ Has k X r.d x := h r (List.mem_of_getElem? hr)
/-- The Store, with other counts. -/
def AS.cnt (s : AS) (g p : Nat) : AS := ⟨s.k, s.cap, s.last, g, p, s.X⟩
theorem AS.Ok.cnt {s : AS} (h : s.Ok) (g p : Nat) : (s.cnt g p).Ok := ⟨h.k1, h.k2, h.cap, h.sorted, h.len, h.used⟩
set_option maxHeartbeats 2000000 in
/-- found answers true; the Store's counts grow. -/
theorem found_spec {bs : Nat} {s : AS} {D L A : List (Nat × Obj)} {n : Nat} {w1 w0 : World} {v : Value} {Q : List Row} (hR : PRep bs s D L) (ok : s.Ok) (hfew : s.Few n) (hn : n ≤ 1000000) (hs0 : Step [] (A ++ (L ++ D)) w1 w0)
    (hg : Good w1 s.k s.X Q) (hQn : Q.length ≤ 1000) (hQ : Sl w0 33 v Q.length (rowsR Q)) (hQo : Outside v (L.map (·.1)))  :
    Calls Try.prog 30 #[.pointer (some ⟨bs, 0, none⟩), v] w0 fun e w' => ∃ L' D', e = .returned (.bool true) ∧ PRep bs (s.cnt (s.gets + Q.length) (s.puts + Q.length)) (D' ++ D) L' ∧ Step (L.map (·.1)) (L' ++ D') w0 w' := by
  have hlive : ∀ {B L' D' w}, Step (L.map (·.1)) (B ++ (L' ++ D')) w0 w → Lives (L' ++ (D' ++ D)) w := fun h => Own.live (A := A) (Own.put hs0 h.dropL)
  have hs : Step (L.map (·.1)) ([] ++ (L ++ [])) w0 w0 := by rw [List.append_nil]; exact (Own.live hs0).left
  have hobt := hQ.form
  obtain ⟨a, c, rfl⟩ := hobt
  have hl1 := hfew.last
  have hl2 := hfew.gets
  have hl3 := hfew.puts
  refine calls (n := 84) Try.func30 rfl rfl rfl ?_
  refine CW.seq ?_
  refine CW.reg ?_
  refine WL.val rfl (run_assign) ?_
  refine WL.nil ?_
  refine CW.seq <| CW.seq ?_
  refine CW.reg ?_
  refine WL.val rfl (run_assign) ?_
  refine WL.nil ?_
  refine CW.block ?_
  refine CW.loop (fun m f w' => ∃ i L' D', i ≤ Q.length ∧ m = Q.length - i ∧ PRep bs (s.cnt (s.gets + i) (s.puts + i)) (D' ++ D) L' ∧ Step (L.map (·.1)) ([] ++ (L' ++ D')) w0 w' ∧ Holds f [(0, .pointer (some ⟨bs, 0, none⟩)), (1, .slice a Q.length c), (5, .int .i64 (i : Nat))]) (m := Q.length) ?_ ?_
  · exact ⟨0, L, [], Nat.zero_le _, rfl, hR, hs, rfl, rfl, rfl, trivial⟩
  · rintro m f w ⟨i, L', D', hi, rfl, hR, hs, hf⟩
    have hobt := hf.chain
    obtain ⟨g, rfl⟩ := hobt
    by_cases hlt : i < Q.length
    · have hobt : ∃ r, Q[i]? = some r := ⟨_, List.getElem?_eq_getElem hlt⟩
      obtain ⟨r, hr⟩ := hobt
      have hobt := hQ.rowAt hr
      obtain ⟨b, off, rfl, hat⟩ := hobt
      have hobt := hg.at hr
      obtain ⟨x, hx, hxr, hxl, hhas⟩ := hobt
      have hrl : (u8s r.d).length = 32 := by rw [u8s, List.length_map, r.hd]
      have hat' : ∀ {B w}, Step (L.map (·.1)) B w0 w → At w b (off + i * 33) r.enc := fun h => hat.step h hQo
      have hsl : ∀ {B L' D' w}, Step (L.map (·.1)) (B ++ (L' ++ D')) w0 w → Sl w 1 r.v x.length (u8s x) := fun h => hx.step0 (Own.put hs0 h.dropL).clear
      have hold : ∀ {B L' D' w}, Step (L.map (·.1)) (B ++ (L' ++ D')) w0 w → OutE r.v x (L'.map (·.1)) := fun h => Own.old (Own.put hs0 h.dropL) hx
      have hh : ∀ g p, Has (s.cnt g p).k (s.cnt g p).X r.d x := fun g p => hhas
      have few : ∀ g p, g ≤ n + 1000 → p ≤ n + 1000 → (s.cnt g p).Few (n + 1000) := fun g p h1 h2 => ⟨Nat.le_add_right_of_le hl1, h1, h2⟩
      have hget := fun {D L w} (hR : PRep bs (s.cnt (s.gets + i) (s.puts + i)) D L) (hl : Lives (L ++ D) w) => get_abs hR (ok.cnt _ _) (few _ _ (by omega) (by omega)) (by omega) hl r.hd
      simp only [(hh _ _).get] at hget
      have hwh := fun {D L w} (hR : PRep bs (s.cnt (s.gets + i + 1) (s.puts + i)) D L) (hl : Lives (L ++ D) w) => whole_abs hR (ok.cnt _ _) hl r.hd
      simp only [(hh _ _).whole] at hwh
      have hobt : ∃ st, ∀ g p, (s.cnt g p).stamp r.d = st := ⟨s.stamp r.d, fun g p => rfl⟩
      obtain ⟨st, hst0⟩ := hobt
      have hst := fun {g p D L w} (hR : PRep bs (s.cnt g p) D L) (hl : Lives (L ++ D) w) => stamp_abs hR (ok.cnt _ _) hl r.hd
      simp only [hst0] at hst
      have hput := fun {D L w} (hR : PRep bs (s.cnt (s.gets + i + 1) (s.puts + i)) D L) (hl : Lives (L ++ D) w) h1 h2 => put_abs (v := r.v) (y := x) hR (ok.cnt _ _) (few _ _ (by omega) (by omega)) (by omega) hl h1 hxr h2 (by omega)
      simp only [(hh _ _).put hxl] at hput
      have hsame := fun {w1 u1 u2} h1 h2 => same1_spec (u := u1) (v := u2) (x := x) (y := x) w1 h1 h2 (by omega) (by omega)
      simp only [decide_true] at hsame
      refine CW.seq <| CW.seq ?_
      refine CW.reg ?_
      refine WL.val rfl (run_move) ?_
      refine WL.val rfl (run_move) ?_
      refine WL.val rfl (run_lenSl Try.underlying51 rfl) ?_
      refine WL.val rfl (run_bT (run_lss rfl rfl) (by omega)) ?_
      refine WL.nil ?_
      refine CW.cond rfl (fun h => ?_) (fun h => ?_)
      · repeat (first | refine CW.seq ?_ | refine CW.block ?_ | refine CW.skip ?_)
        refine CW.reg ?_
        refine WL.val rfl (run_move) ?_
        refine WL.val rfl (run_move) ?_
        refine WL.val rfl (run_move) ?_
        refine WL.val rfl (run_ixSlN Try.underlying51 ty53 rfl rfl (by omega)) ?_
        refine WL.val rfl (run_field (o' := 0) Try.underlying53 rfl ty27 rfl rfl rfl) ?_
        refine WL.val rfl (run_loadN ty27 rfl hrl (hat' hs).fst) ?_
        refine WL.enter rfl (run_call en19 rfl rfl) (hget hR (hlive hs)) ?_
        rintro e w ⟨v', Lv', L2, rfl, hu', hR2, hq⟩
        refine ⟨_, rfl, ?_⟩
        replace hs := Own.put (A := []) hs hq
        refine WL.val rfl (run_move) ?_
        refine WL.val rfl (run_extract rfl rfl) ?_
        refine WL.val rfl (run_extract rfl rfl) ?_
        refine WL.val rfl (run_assign) ?_
        refine WL.val rfl (run_assign) ?_
        refine WL.nil ?_
        have hgot : Held (Lv' ++ D') v' x := ⟨Lv', hu', fun p hp => List.mem_append_left _ hp⟩
        have hobt := hgot.form
        obtain ⟨ga, gc, rfl⟩ := hobt
        replace hR2 : PRep bs (s.cnt (s.gets + i + 1) (s.puts + i)) ((Lv' ++ D') ++ D) L2 := hR2.mono fun p hp => by rw [List.append_assoc]; exact List.mem_append_right _ hp
        refine CW.seq <| CW.seq ?_
        refine CW.reg ?_
        refine WL.val rfl (run_move) ?_
        refine WL.val rfl (run_bF (run_neq rfl rfl) (by decide)) ?_
        refine WL.val rfl (run_move) ?_
        refine WL.yes rfl rfl rfl ?_; refine WL.val rfl (run_move) ?_
        refine WL.yes rfl rfl rfl ?_; refine WL.val rfl (run_move) ?_
        refine WL.yes rfl rfl rfl ?_; refine WL.val rfl (run_move) ?_
        refine WL.yes rfl rfl rfl ?_; (first | refine WL.val rfl (run_ixSlN Try.underlying51 ty53 rfl rfl (by omega)) ?_ | refine WL.val rfl (run_ixSl Try.underlying51 ty53 rfl rfl (by omega)) ?_)
        refine WL.yes rfl rfl rfl ?_; refine WL.val rfl (run_field (o' := 32) Try.underlying53 rfl ty22 rfl rfl rfl) ?_
        refine WL.yes rfl rfl rfl ?_
        refine WL.val rfl (run_load1 ty22 rfl (row_v (hat' hs))) ?_
        refine WL.yes rfl rfl rfl ?_
        refine WL.enter rfl (run_call en18 rfl rfl) (hsame (Own.sl (A := []) hs hgot) (hsl hs)) ?_
        rintro e w ⟨rfl, hq⟩
        refine ⟨_, rfl, ?_⟩
        replace hs := hs.callE hq
        refine WL.yes rfl rfl rfl ?_; (first | refine WL.val rfl (run_notB rfl) ?_ | refine WL.val rfl (run_not rfl) ?_)
        refine WL.val rfl (run_pickF rfl) ?_
        refine WL.val rfl (run_move) ?_
        refine WL.yes rfl rfl rfl ?_; refine WL.val rfl (run_move) ?_
        refine WL.yes rfl rfl rfl ?_; refine WL.val rfl (run_move) ?_
        refine WL.yes rfl rfl rfl ?_; refine WL.val rfl (run_move) ?_
        refine WL.yes rfl rfl rfl ?_; (first | refine WL.val rfl (run_ixSlN Try.underlying51 ty53 rfl rfl (by omega)) ?_ | refine WL.val rfl (run_ixSl Try.underlying51 ty53 rfl rfl (by omega)) ?_)
        refine WL.yes rfl rfl rfl ?_; refine WL.val rfl (run_field (o' := 0) Try.underlying53 rfl ty27 rfl rfl rfl) ?_
        refine WL.yes rfl rfl rfl ?_
        refine WL.val rfl (run_loadN ty27 rfl hrl (hat' hs).fst) ?_
        refine WL.yes rfl rfl rfl ?_
        refine WL.enter rfl (run_call en16 rfl rfl) (hwh hR2 (hlive hs)) ?_
        rintro e w ⟨rfl, hq⟩
        refine ⟨_, rfl, ?_⟩
        replace hs := hs.callE hq
        refine WL.yes rfl rfl rfl ?_; (first | refine WL.val rfl (run_notB rfl) ?_ | refine WL.val rfl (run_not rfl) ?_)
        refine WL.val rfl (run_pickF rfl) ?_
        refine WL.nil ?_
        refine CW.cond rfl (fun h2 => ?_) (fun h2 => ?_)
        · cases h2
        repeat (first | refine CW.seq ?_ | refine CW.skip ?_)
        refine CW.reg ?_
        refine WL.val rfl (run_move) ?_
        refine WL.val rfl (run_move) ?_
        refine WL.val rfl (run_move) ?_
        refine WL.val rfl (run_ixSlN Try.underlying51 ty53 rfl rfl (by omega)) ?_
        refine WL.val rfl (run_field (o' := 0) Try.underlying53 rfl ty27 rfl rfl rfl) ?_
        refine WL.val rfl (run_loadN ty27 rfl hrl (hat' hs).fst) ?_
        refine WL.enter rfl (run_call en48 rfl rfl) (hst hR2 (hlive hs)) ?_
        rintro e w ⟨rfl, hq⟩
        refine ⟨_, rfl, ?_⟩
        replace hs := hs.callE hq
        refine WL.val rfl (run_assign) ?_
        refine WL.nil ?_
        refine CW.seq ?_
        refine CW.reg ?_
        refine WL.val rfl (run_move) ?_
        refine WL.val rfl (run_move) ?_
        refine WL.val rfl (run_move) ?_
        refine WL.val rfl (run_ixSlN Try.underlying51 ty53 rfl rfl (by omega)) ?_
        refine WL.val rfl (run_field (o' := 32) Try.underlying53 rfl ty22 rfl rfl rfl) ?_
        refine WL.val rfl (run_load1 ty22 rfl (row_v (hat' hs))) ?_
        refine WL.enter rfl (run_call en12 rfl rfl) (hput hR2 (hlive hs) (hsl hs) (hold hs)) ?_
        rintro e w ⟨L3, D3, rfl, hR3, hq⟩
        refine ⟨_, rfl, ?_⟩
        replace hs := Own.put (A := []) hs hq
        refine WL.val rfl (run_move) ?_
        refine WL.val rfl (run_extract rfl rfl) ?_
        refine WL.val rfl (run_extract rfl rfl) ?_
        refine WL.alloc ty27 rfl hs (fun b9 w hs => ?_)
        refine WL.storeAll ty27 rfl rfl ((hrl)) (Cells1.u8s _) hs (by first | rfl | assumption) (fun w hs => ?_)
        refine WL.val rfl (run_assign) ?_
        refine WL.nil ?_
        replace hR3 : PRep bs (s.cnt (s.gets + (i + 1)) (s.puts + (i + 1))) ((D3 ++ (Lv' ++ D')) ++ D) L3 := by rw [List.append_assoc]; exact hR3
        refine CW.seq ?_
        refine CW.quiet mixedP (by kernel_rfl) hs ?_
        refine QL.val rfl (fun w hs => run_move) ?_
        refine QL.val rfl (fun w hs => run_bF (run_neq rfl rfl) (by decide)) ?_
        refine QL.val rfl (fun w hs => run_move) ?_
        refine QL.yes rfl rfl rfl ?_
        refine QL.val rfl (fun w hs => run_loadN ty27 rfl hrl hs.a0) ?_
        refine QL.yes rfl rfl rfl ?_; refine QL.val rfl (fun w hs => run_move) ?_
        refine QL.yes rfl rfl rfl ?_; refine QL.val rfl (fun w hs => run_move) ?_
        refine QL.yes rfl rfl rfl ?_; (first | refine QL.val rfl (fun w hs => run_ixSlN Try.underlying51 ty53 rfl rfl (by omega)) ?_ | refine QL.val rfl (fun w hs => run_ixSl Try.underlying51 ty53 rfl rfl (by omega)) ?_)
        refine QL.yes rfl rfl rfl ?_; refine QL.val rfl (fun w hs => run_field (o' := 0) Try.underlying53 rfl ty27 rfl rfl rfl) ?_
        refine QL.yes rfl rfl rfl ?_
        refine QL.val rfl (fun w hs => run_loadN ty27 rfl hrl (hat' hs).fst) ?_
        refine QL.yes rfl rfl rfl ?_
        refine QL.val rfl (fun w hs => run_bF (run_neDig r.hd r.hd rfl rfl) (fun h => h rfl)) ?_
        refine QL.val rfl (fun w hs => run_pickF rfl) ?_
        refine QL.val rfl (fun w hs => run_move) ?_
        refine QL.yes rfl rfl rfl ?_; refine QL.val rfl (fun w hs => run_move) ?_
        refine QL.yes rfl rfl rfl ?_
        refine QL.val rfl (fun w hs => run_loadN ty27 rfl hrl hs.a0) ?_
        refine QL.yes rfl rfl rfl ?_
        refine QL.enter rfl (fun w => run_call en48 rfl rfl) (fun w hs => hst hR3 (hlive (B := [_]) hs)) ?_
        refine QL.yes rfl rfl rfl ?_; refine QL.val rfl (fun w hs => run_move) ?_
        refine QL.yes rfl rfl rfl ?_
        refine QL.val rfl (fun w hs => run_bF (run_neq rfl rfl) (by exact fun h => h rfl)) ?_
        refine QL.val rfl (fun w hs => run_pickF rfl) ?_
        refine QL.nil (fun w hs => ?_)
        refine CW.cond rfl (fun h3 => ?_) (fun h3 => ?_)
        · cases h3
        refine CW.skip ?_
        refine CW.reg ?_
        refine WL.val rfl (run_move) ?_
        refine WL.val rfl (run_add (c := ((i + 1 : Nat) : Int)) rfl rfl (by omega) (by omega)) ?_
        refine WL.val rfl (run_assign) ?_
        refine WL.nil ?_
        refine (show _ ∧ _ from ⟨rfl, _, ?_, i + 1, L3, D3 ++ (Lv' ++ D'), hlt, rfl, hR3, hs.tail, rfl, rfl, rfl, trivial⟩)
        omega
      · cases h
    · obtain rfl : i = Q.length := by omega
      refine CW.seq <| CW.seq ?_
      refine CW.reg ?_
      refine WL.val rfl (run_move) ?_
      refine WL.val rfl (run_move) ?_
      refine WL.val rfl (run_lenSl Try.underlying51 rfl) ?_
      refine WL.val rfl (run_bF (run_lss rfl rfl) (by omega)) ?_
      refine WL.nil ?_
      refine CW.cond rfl (fun h => ?_) (fun h => ?_)
      · cases h
      repeat (first | refine CW.seq ?_ | refine CW.exit ?_)
      refine CW.reg ?_
      refine WL.val rfl (run_assign) ?_
      refine WL.nil ?_
      refine CW.ret ?_
      refine fin_ret1 rfl ?_
      exact ⟨L', D', rfl, hR, hs⟩
end Go.Gx
/-! Found -/
namespace Go.Gx
open Go.Proofs
set_option linter.unusedVariables false
set_option linter.unusedSimpArgs false
set_option maxRecDepth 100000
attribute [local irreducible] shaL cutD frontL
theorem bld_put32 (a0 a1 a2 a3 a4 a5 a6 a7 a8 a9 a10 a11 a12 a13 a14 a15 a16 a17 a18 a19 a20 a21 a22 a23 a24 a25 a26 a27 a28 a29 a30 a31 : UInt8) (a : Option Addr) (n c : Nat) (w : World) : (Instr.build 53 #[(0, .agg (u8s [a0, a1, a2, a3, a4, a5, a6, a7, a8, a9, a10, a11, a12, a13, a14, a15, a16, a17, a18, a19, a20, a21, a22, a23, a24, a25, a26, a27, a28, a29, a30, a31]).toArray), (1, .slice a n c)]).run Try.prog w = .ok (.agg (u8s [a0, a1, a2, a3, a4, a5, a6, a7, a8, a9, a10, a11, a12, a13, a14, a15, a16, a17, a18, a19, a20, a21, a22, a23, a24, a25, a26, a27, a28, a29, a30, a31] ++ [Value.slice a n c]).toArray) w := by kernel_rfl
theorem bld_put {d : List UInt8} (hd : d.length = 32) (a : Option Addr) (n c : Nat) (w : World) : (Instr.build 53 #[(0, .agg (u8s d).toArray), (1, .slice a n c)]).run Try.prog w = .ok (.agg (u8s d ++ [Value.slice a n c]).toArray) w := by
  have hobt := cells32 hd
  obtain ⟨a0, a1, a2, a3, a4, a5, a6, a7, a8, a9, a10, a11, a12, a13, a14, a15, a16, a17, a18, a19, a20, a21, a22, a23, a24, a25, a26, a27, a28, a29, a30, a31, rfl⟩ := hobt
  exact bld_put32 a0 a1 a2 a3 a4 a5 a6 a7 a8 a9 a10 a11 a12 a13 a14 a15 a16 a17 a18 a19 a20 a21 a22 a23 a24 a25 a26 a27 a28 a29 a30 a31 a n c w
theorem AS.Few.cnt {s : AS} {n q : Nat} (h : s.Few n) : (s.cnt (s.gets + q) (s.puts + q)).Few (n + q) := ⟨Nat.le_add_right_of_le h.last, Nat.add_le_add_right h.gets q, Nat.add_le_add_right h.puts q⟩
theorem Step.dropMid {S : List Nat} {A B C : List (Nat × Obj)} {w0 w : World} (h : Step S (A ++ (B ++ C)) w0 w) : Step S (A ++ C) w0 w := by
  have h1 : Step S (B ++ (A ++ C)) w0 w := h.perm (by
    have h2 : (A ++ B ++ C).Perm (B ++ A ++ C) := List.perm_append_comm.append_right C
    simpa [List.append_assoc] using h2)
  exact h1.dropL
theorem OwnSl.outO {E sz k : Nat} {v : Value} {xs : List Value} {Lv : List (Nat × Obj)} (h : OwnSl E sz v k xs Lv) {S : List Nat} {B L : List (Nat × Obj)} {w0 w : World} (hs : Step S (Lv ++ (L ++ B)) w0 w) : Outside v (L.map (·.1)) := h.outside fun p hp hm => by
  have hn := Step.nodup hs
  rw [List.map_append, List.nodup_append] at hn
  exact hn.2.2 p.1 (List.mem_map_of_mem hp) p.1 (by rw [List.map_append]; exact List.mem_append_left _ hm) rfl
theorem get_cases (s : AS) (d : List UInt8) : ((s.get d).2 ≠ 0) ∨ ((s.get d).2 = 0 ∧ frontL (s.get d).1 s.k = d) := by
  unfold AS.get
  cases hf : findX d s.X with
  | none => exact .inl (by simp)
  | some b =>
    simp only
    by_cases h : frontL b.x s.k = d
    · rw [if_pos h]; exact .inr ⟨rfl, h⟩
    · rw [if_neg h]; exact .inl (by simp)
end Go.Gx
/-! Reck -/
namespace Go.Gx
open Go.Proofs
set_option linter.unusedVariables false
set_option linter.unusedSimpArgs false
set_option maxRecDepth 100000
attribute [local irreducible] shaL cutD frontL
theorem usedX_take {X : List Blb} {k : Nat} {b : Blb} (h : X[k]? = some b) : usedX (X.take (k + 1)) = usedX (X.take k) + b.x.length + 32 := by
  rw [List.take_add_one, h]
  simp [usedX]
  omega
theorem Lives.after {L : List (Nat × Obj)} {w w' : World} (h : Lives L w) (hs : Step [] [] w w') : Lives L w' := Step.own0 (h.step0 hs)
section
variable {bs : Nat} {s : AS} {D L : List (Nat × Obj)} {w0 : World}
/-- What All's sequence reads, in a later world. -/
theorem seqOk_of (ok : s.Ok) (hw : Lives (L ++ D) w0) {b3 : Nat} {lv : Value} {Lv Y : List (Nat × Obj)} {R : List Row} (ha1 : OwnSl 101 33 lv R.length (rowsR R) Lv) (ha2 : R.length = s.X.length)
    (ha3 : ∀ (i : Nat) (r : Row) (b : Blb), (R : List Row)[i]? = some r → s.X[i]? = some b → r.d = b.d ∧ Held D r.v b.x) {W : World} (hs : Step [] (Y ++ ((b3, blk 99 [lv]) :: Lv)) w0 W) : SeqOk W b3 lv R (s.X.map fun b => (b.d, b.x)) := by
  have hl : (s.X.map fun b => (b.d, b.x)).length = R.length := by rw [List.length_map, ha2]
  have hul := used_len s.X
  have hou := ok.used
  refine ⟨?_, ?_, hl, by omega, ?_⟩
  · have h := hs.has (b3, blk 99 [lv]) (by simp)
    rw [cell_blk h]
    rfl
  · exact ha1.sl (L := []) (by rw [List.append_nil]; exact (Step.dropL hs).tail)
  · intro i r d x hr hx
    rw [List.getElem?_map] at hx
    cases hb : s.X[i]? with
    | none => rw [hb] at hx; cases hx
    | some b =>
      rw [hb] at hx
      have hobt := ha3 i r b hr hb
      obtain ⟨h1, h2⟩ := hobt
      simp only [Option.map_some, Option.some.injEq, Prod.mk.injEq] at hx
      obtain ⟨rfl, rfl⟩ := hx
      have hm := used_mem (List.mem_of_getElem? hb)
      exact ⟨h1, by omega, h2.sl fun p hp => (hw.step0 hs.clear).has p (by simp [hp])⟩
set_option maxHeartbeats 4000000 in
theorem reckoned_spec (hR : PRep bs s D L) (ok : s.Ok) (hw : Lives (L ++ D) w0) : Calls Try.prog 27 #[.pointer (some ⟨bs, 0, none⟩)] w0 (Ret0 (.bool true) w0) := by
  have hul := used_len s.X
  have hou := ok.used
  have hs : Step [] [] w0 w0 := Step.refl w0
  refine callsM (n := 32) Try.func27 rfl rfl rfl ?_
  repeat (first | refine CW.seq ?_ | refine CW.block ?_ | refine CW.skip ?_ | refine CW.label ?_ | refine CW.exit ?_ | refine CW.condT rfl ?_ | refine CW.condF rfl ?_)
  refine CW.reg ?_
  refine WL.val rfl (run_assign) ?_
  refine WL.nil ?_
  repeat (first | refine CW.seq ?_ | refine CW.block ?_ | refine CW.skip ?_ | refine CW.label ?_ | refine CW.exit ?_ | refine CW.condT rfl ?_ | refine CW.condF rfl ?_)
  refine CW.reg ?_
  refine WL.val rfl (run_move) ?_
  refine WL.enter rfl (run_call en36 rfl rfl) (all_abs hR ok hw) ?_
  rintro e w ⟨b3, lv, Lv, R, rfl, ha1, ha2, ha3, hq⟩
  refine ⟨_, rfl, ?_⟩
  replace hs := hs.callAll0 hq
  refine WL.val rfl (run_assign) ?_
  refine WL.nil ?_
  repeat (first | refine CW.seq ?_ | refine CW.block ?_ | refine CW.skip ?_ | refine CW.label ?_ | refine CW.exit ?_ | refine CW.condT rfl ?_ | refine CW.condF rfl ?_)
  refine CW.reg ?_
  refine WL.val rfl (run_move) ?_
  refine WL.val rfl (run_funcNil Try.underlying73 rfl rfl) ?_
  refine WL.nil ?_
  repeat (first | refine CW.seq ?_ | refine CW.block ?_ | refine CW.skip ?_ | refine CW.label ?_ | refine CW.exit ?_)
  first | refine CW.condP rfl (fun h => ?_) (fun h => ?_) | refine CW.cond rfl (fun h => ?_) (fun h => ?_)
  · cases h
  repeat (first | refine CW.seq ?_ | refine CW.block ?_ | refine CW.skip ?_ | refine CW.label ?_ | refine CW.exit ?_ | refine CW.condT rfl ?_ | refine CW.condF rfl ?_)
  refine CW.reg ?_
  refine WL.alloc ty3 rfl hs (fun b4 w hs => ?_)
  first | refine WL.store1 ty3 rfl rfl (rfl) hs (by first | (simp; done) | omega | (simp only [List.length_append, List.length_replicate, List.length_cons, List.length_nil, List.length_set]; omega) | (simp [Ent.cells, u8s]; done) | exact Nat.le_of_ble_eq_true rfl) (fun w hs => ?_) | refine WL.store1_1 ty3 rfl rfl (rfl) hs (by first | (simp; done) | omega | (simp only [List.length_append, List.length_replicate, List.length_cons, List.length_nil, List.length_set]; omega) | (simp [Ent.cells, u8s]; done) | exact Nat.le_of_ble_eq_true rfl) (fun w hs => ?_) | refine WL.store1_2 ty3 rfl rfl (rfl) hs (by first | (simp; done) | omega | (simp only [List.length_append, List.length_replicate, List.length_cons, List.length_nil, List.length_set]; omega) | (simp [Ent.cells, u8s]; done) | exact Nat.le_of_ble_eq_true rfl) (fun w hs => ?_) | refine WL.store1_3 ty3 rfl rfl (rfl) hs (by first | (simp; done) | omega | (simp only [List.length_append, List.length_replicate, List.length_cons, List.length_nil, List.length_set]; omega) | (simp [Ent.cells, u8s]; done) | exact Nat.le_of_ble_eq_true rfl) (fun w hs => ?_) | refine WL.store1_4 ty3 rfl rfl (rfl) hs (by first | (simp; done) | omega | (simp only [List.length_append, List.length_replicate, List.length_cons, List.length_nil, List.length_set]; omega) | (simp [Ent.cells, u8s]; done) | exact Nat.le_of_ble_eq_true rfl) (fun w hs => ?_) | refine WL.store1 ty3 rfl rfl (rfl) hs (by first | (simp; done) | omega | (simp only [List.length_append, List.length_replicate, List.length_cons, List.length_nil, List.length_set]; omega) | (simp [Ent.cells, u8s]; done) | exact Nat.le_of_ble_eq_true rfl) (fun w hs => ?_)
  refine WL.nil ?_
  repeat (first | refine CW.seq ?_ | refine CW.block ?_ | refine CW.skip ?_ | refine CW.label ?_ | refine CW.exit ?_ | refine CW.condT rfl ?_ | refine CW.condF rfl ?_)
  refine CW.reg ?_
  refine WL.alloc ty3 rfl hs (fun b5 w hs => ?_)
  first | refine WL.store1 ty3 rfl rfl (rfl) hs (by first | (simp; done) | omega | (simp only [List.length_append, List.length_replicate, List.length_cons, List.length_nil, List.length_set]; omega) | (simp [Ent.cells, u8s]; done) | exact Nat.le_of_ble_eq_true rfl) (fun w hs => ?_) | refine WL.store1_1 ty3 rfl rfl (rfl) hs (by first | (simp; done) | omega | (simp only [List.length_append, List.length_replicate, List.length_cons, List.length_nil, List.length_set]; omega) | (simp [Ent.cells, u8s]; done) | exact Nat.le_of_ble_eq_true rfl) (fun w hs => ?_) | refine WL.store1_2 ty3 rfl rfl (rfl) hs (by first | (simp; done) | omega | (simp only [List.length_append, List.length_replicate, List.length_cons, List.length_nil, List.length_set]; omega) | (simp [Ent.cells, u8s]; done) | exact Nat.le_of_ble_eq_true rfl) (fun w hs => ?_) | refine WL.store1_3 ty3 rfl rfl (rfl) hs (by first | (simp; done) | omega | (simp only [List.length_append, List.length_replicate, List.length_cons, List.length_nil, List.length_set]; omega) | (simp [Ent.cells, u8s]; done) | exact Nat.le_of_ble_eq_true rfl) (fun w hs => ?_) | refine WL.store1_4 ty3 rfl rfl (rfl) hs (by first | (simp; done) | omega | (simp only [List.length_append, List.length_replicate, List.length_cons, List.length_nil, List.length_set]; omega) | (simp [Ent.cells, u8s]; done) | exact Nat.le_of_ble_eq_true rfl) (fun w hs => ?_) | refine WL.store1 ty3 rfl rfl (rfl) hs (by first | (simp; done) | omega | (simp only [List.length_append, List.length_replicate, List.length_cons, List.length_nil, List.length_set]; omega) | (simp [Ent.cells, u8s]; done) | exact Nat.le_of_ble_eq_true rfl) (fun w hs => ?_)
  refine WL.nil ?_
  repeat (first | refine CW.seq ?_ | refine CW.block ?_ | refine CW.skip ?_ | refine CW.label ?_ | refine CW.exit ?_ | refine CW.condT rfl ?_ | refine CW.condF rfl ?_)
  refine CW.reg ?_
  refine WL.val rfl (run_move) ?_
  refine WL.nil ?_
  repeat (first | refine CW.seq ?_ | refine CW.block ?_ | refine CW.skip ?_ | refine CW.label ?_ | refine CW.exit ?_ | refine CW.condT rfl ?_ | refine CW.condF rfl ?_)
  refine CW.rangeFunc2 (cap := [.pointer (some ⟨b3, 0, none⟩)]) en57 rfl hs ?_
  intro l b0 r w2 hrec hrs hrp hs2
  clear hs
  refine (all2_iter (b3 := b3) (lv := lv) (R := R) (X := s.X.map fun b => (b.d, b.x)) w2
    (J := fun k L W => L = [(l, .loop r), (b0, .deferred (some [])), (b5, blk 3 [.int .i64 (usedX (s.X.take k) : Nat)]), (b4, blk 3 [.int .i64 (k : Nat)])] ∧ Step [] (L ++ ((b3, blk 99 [lv]) :: Lv)) w0 W)
    (Jx := fun _ => False) (L0 := [(l, .loop r), (b0, .deferred (some [])), (b5, blk 3 [.int .i64 0]), (b4, blk 3 [.int .i64 0])]) ?_ ?_ ?_ ?_).mono ?_
  · rintro k L W W' ⟨rfl, hs⟩ h'
    exact ⟨rfl, hs.callE h'⟩
  · rintro k L W ⟨rfl, hs⟩
    exact seqOk_of ok hw ha1 ha2 ha3 hs
  · exact ⟨rfl, hs2⟩
  · rintro k d x L' W W1 v' Lv' hx ⟨rfl, hs⟩ hst hu'
    obtain ⟨b, hb, hbx⟩ : ∃ b, s.X[k]? = some b ∧ b.x = x := by
      rw [List.getElem?_map] at hx
      cases hb : s.X[k]? with
      | none => rw [hb] at hx; cases hx
      | some b =>
        rw [hb] at hx
        simp only [Option.map_some, Option.some.injEq, Prod.mk.injEq] at hx
        exact ⟨b, rfl, hx.2⟩
    subst hbx
    have hus := usedX_take hb
    have hle := usedX_take_le s.X (k + 1)
    have hkl := (List.getElem?_eq_some_iff.1 hb).1
    have hW1 := Step.call0 hs hst
    rw [← List.append_assoc] at hW1
    have hsW := Step.append_comm (L1 := Lv') (L2 := [_, _, _, _]) (Step.own hW1)
    have hobt := hu'.form
    obtain ⟨va, vc, rfl⟩ := hobt
    refine yields_of2 (n := 32) hrec hrs rfl rfl hsW ?_
    have hs3 := hsW
    repeat (first | refine CWI.seq ?_ | refine CWI.block ?_ | refine CWI.skip ?_ | refine CWI.label ?_ | refine CWI.exit ?_ | refine CWI.condT rfl ?_ | refine CWI.condF rfl ?_)
    refine CWI.reg rfl (fun _ _ _ h => h) ?_
    refine WL.val rfl (run_assign) ?_
    refine WL.nil ?_
    refine ⟨_, _, _, _, hsW, hrs, fun w3 hs => ?_⟩
    clear hs3
    repeat (first | refine CWI.seq ?_ | refine CWI.block ?_ | refine CWI.skip ?_ | refine CWI.label ?_ | refine CWI.exit ?_ | refine CWI.condT rfl ?_ | refine CWI.condF rfl ?_)
    refine CWI.reg rfl (fun _ _ _ h => h) ?_
    refine WL.val rfl (run_load1 ty3 rfl (hs.c3 rfl)) ?_
    refine WL.val rfl (run_add (c := ((k + 1 : Nat) : Int)) rfl rfl (by omega) (by omega)) ?_
    first | refine WL.store1 ty3 rfl rfl (rfl) hs (by first | (simp; done) | omega | (simp only [List.length_append, List.length_replicate, List.length_cons, List.length_nil, List.length_set]; omega) | (simp [Ent.cells, u8s]; done) | exact Nat.le_of_ble_eq_true rfl) (fun w hs => ?_) | refine WL.store1_1 ty3 rfl rfl (rfl) hs (by first | (simp; done) | omega | (simp only [List.length_append, List.length_replicate, List.length_cons, List.length_nil, List.length_set]; omega) | (simp [Ent.cells, u8s]; done) | exact Nat.le_of_ble_eq_true rfl) (fun w hs => ?_) | refine WL.store1_2 ty3 rfl rfl (rfl) hs (by first | (simp; done) | omega | (simp only [List.length_append, List.length_replicate, List.length_cons, List.length_nil, List.length_set]; omega) | (simp [Ent.cells, u8s]; done) | exact Nat.le_of_ble_eq_true rfl) (fun w hs => ?_) | refine WL.store1_3 ty3 rfl rfl (rfl) hs (by first | (simp; done) | omega | (simp only [List.length_append, List.length_replicate, List.length_cons, List.length_nil, List.length_set]; omega) | (simp [Ent.cells, u8s]; done) | exact Nat.le_of_ble_eq_true rfl) (fun w hs => ?_) | refine WL.store1_4 ty3 rfl rfl (rfl) hs (by first | (simp; done) | omega | (simp only [List.length_append, List.length_replicate, List.length_cons, List.length_nil, List.length_set]; omega) | (simp [Ent.cells, u8s]; done) | exact Nat.le_of_ble_eq_true rfl) (fun w hs => ?_) | refine WL.store1 ty3 rfl rfl (rfl) hs (by first | (simp; done) | omega | (simp only [List.length_append, List.length_replicate, List.length_cons, List.length_nil, List.length_set]; omega) | (simp [Ent.cells, u8s]; done) | exact Nat.le_of_ble_eq_true rfl) (fun w hs => ?_)
    refine WL.nil ?_
    repeat (first | refine CWI.seq ?_ | refine CWI.block ?_ | refine CWI.skip ?_ | refine CWI.label ?_ | refine CWI.exit ?_ | refine CWI.condT rfl ?_ | refine CWI.condF rfl ?_)
    refine CWI.reg rfl (fun _ _ _ h => h) ?_
    refine WL.val rfl (run_load1 ty3 rfl (hs.c2 rfl)) ?_
    refine WL.val rfl (run_move) ?_
    refine WL.val rfl (run_lenSl Try.underlying22 rfl) ?_
    refine WL.val rfl (run_add (c := ((usedX (s.X.take k) + b.x.length : Nat) : Int)) rfl rfl (by omega) (by omega)) ?_
    refine WL.val rfl (run_add (c := ((usedX (s.X.take (k + 1)) : Nat) : Int)) rfl rfl (by omega) (by omega)) ?_
    first | refine WL.store1 ty3 rfl rfl (rfl) hs (by first | (simp; done) | omega | (simp only [List.length_append, List.length_replicate, List.length_cons, List.length_nil, List.length_set]; omega) | (simp [Ent.cells, u8s]; done) | exact Nat.le_of_ble_eq_true rfl) (fun w hs => ?_) | refine WL.store1_1 ty3 rfl rfl (rfl) hs (by first | (simp; done) | omega | (simp only [List.length_append, List.length_replicate, List.length_cons, List.length_nil, List.length_set]; omega) | (simp [Ent.cells, u8s]; done) | exact Nat.le_of_ble_eq_true rfl) (fun w hs => ?_) | refine WL.store1_2 ty3 rfl rfl (rfl) hs (by first | (simp; done) | omega | (simp only [List.length_append, List.length_replicate, List.length_cons, List.length_nil, List.length_set]; omega) | (simp [Ent.cells, u8s]; done) | exact Nat.le_of_ble_eq_true rfl) (fun w hs => ?_) | refine WL.store1_3 ty3 rfl rfl (rfl) hs (by first | (simp; done) | omega | (simp only [List.length_append, List.length_replicate, List.length_cons, List.length_nil, List.length_set]; omega) | (simp [Ent.cells, u8s]; done) | exact Nat.le_of_ble_eq_true rfl) (fun w hs => ?_) | refine WL.store1_4 ty3 rfl rfl (rfl) hs (by first | (simp; done) | omega | (simp only [List.length_append, List.length_replicate, List.length_cons, List.length_nil, List.length_set]; omega) | (simp [Ent.cells, u8s]; done) | exact Nat.le_of_ble_eq_true rfl) (fun w hs => ?_) | refine WL.store1 ty3 rfl rfl (rfl) hs (by first | (simp; done) | omega | (simp only [List.length_append, List.length_replicate, List.length_cons, List.length_nil, List.length_set]; omega) | (simp [Ent.cells, u8s]; done) | exact Nat.le_of_ble_eq_true rfl) (fun w hs => ?_)
    refine WL.nil ?_
    repeat (first | refine CWI.seq ?_ | refine CWI.block ?_ | refine CWI.skip ?_ | refine CWI.label ?_ | refine CWI.exit ?_ | refine CWI.condT rfl ?_ | refine CWI.condF rfl ?_)
    refine ⟨_, _, _, _, hs, fun w' hs' => ?_⟩
    rw [Loop.at_back hrs hrp] at hs'
    rw [if_pos rfl]
    have hs4 := Step.dropR (L1 := [_, _, _, _]) hs'
    exact ⟨_, hs4, rfl, Step.call hW1 hs4⟩
  · rintro e w' ⟨hret, ⟨L', rfl, hs⟩ | h⟩
    · refine ⟨hret, behind_none hs hrs hrp fun w hs => ?_⟩
      simp only [List.length_map, List.take_length] at hs
      replace hs := hs.swap
      repeat (first | refine CW.seq ?_ | refine CW.block ?_ | refine CW.skip ?_ | refine CW.label ?_ | refine CW.exit ?_ | refine CW.condT rfl ?_ | refine CW.condF rfl ?_)
      refine CW.quiet mixedP (by kernel_rfl) hs ?_
      refine QL.val rfl (fun w hs => run_load1 ty3 rfl (hs.c3 rfl)) ?_
      refine QL.val rfl (fun w hs => run_move) ?_
      refine QL.enter rfl (fun w => run_call en21 rfl rfl) (fun w hs => len_abs hR ok (hw.after hs.clear)) ?_
      refine QL.val rfl (fun w hs => run_bT (run_eql rfl rfl) (by rfl)) ?_
      refine QL.val rfl (fun w hs => run_move) ?_
      refine QL.yes rfl rfl rfl ?_
      refine QL.val rfl (fun w hs => run_load1 ty3 rfl (hs.c2 rfl)) ?_
      first | (refine QL.yes rfl rfl rfl ?_; refine QL.val rfl (fun w hs => run_move) ?_) | refine QL.no rfl rfl rfl (.inl rfl) ?_ | refine QL.no rfl rfl rfl (.inr rfl) ?_
      refine QL.yes rfl rfl rfl ?_
      refine QL.enter rfl (fun w => run_call en22 rfl rfl) (fun w hs => used_abs hR ok (hw.after hs.clear)) ?_
      refine QL.yes rfl rfl rfl ?_
      refine QL.val rfl (fun w hs => run_bT (run_eql rfl rfl) (by rfl)) ?_
      first | refine QL.val rfl (fun w hs => run_pickT rfl) ?_ | refine QL.val rfl (fun w hs => run_pickF rfl) ?_
      refine QL.val rfl (fun w hs => run_assign) ?_
      refine QL.nil (fun w hs => ?_)
      repeat (first | refine CW.seq ?_ | refine CW.block ?_ | refine CW.skip ?_ | refine CW.label ?_ | refine CW.exit ?_ | refine CW.condT rfl ?_ | refine CW.condF rfl ?_)
      refine CW.ret ?_
      refine finM_ret (bs := [b0]) (.inl rfl) hs fun a ha w2 hs2 => ⟨_, res_tmp1 ha rfl, rfl, hs2.clear⟩
    · exact h.elim
end
end Go.Gx
/-! Room1 -/
namespace Go.Gx
open Go.Proofs
set_option linter.unusedVariables false
set_option linter.unusedSimpArgs false
set_option maxRecDepth 100000
attribute [local irreducible] shaL cutD frontL
section
variable {s : AS} {d y : List UInt8}
theorem lay_used {s s' : AS} {d x : List UInt8} (h : s.lay d x = some s') : usedX s'.X ≤ s'.cap ∧ s'.cap = s.cap := by
  unfold AS.lay at h
  split at h
  · rename_i hu
    obtain rfl := (Option.some.inj h).symm
    exact ⟨hu, rfl⟩
  · cases h
theorem put_used (h : usedX s.X ≤ s.cap) (y : List UInt8) : usedX (s.put y).2.2.X ≤ (s.put y).2.2.cap := by
  have hgo : ∀ r : List UInt8 × Nat × AS, r = (match ({ s with puts := s.puts + 1 } : AS).lay (frontL y s.k) y with | some s2 => (frontL y s.k, 0, s2) | none => (zD, 43, { s with puts := s.puts + 1 })) → usedX r.2.2.X ≤ r.2.2.cap := by
    intro r hr
    cases hl : ({ s with puts := s.puts + 1 } : AS).lay (frontL y s.k) y with
    | none => rw [hl] at hr; subst hr; exact h
    | some s2 => rw [hl] at hr; subst hr; exact (lay_used hl).1
  unfold AS.put
  simp only
  split
  · exact h
  · split
    · split
      · exact h
      · split
        · exact h
        · exact hgo _ rfl
    · exact hgo _ rfl
theorem plant_used (h : usedX s.X ≤ s.cap) (d y : List UInt8) : usedX (s.plant d y).2.X ≤ (s.plant d y).2.cap := by
  unfold AS.plant
  split
  · exact h
  · split
    · exact h
    · cases hl : s.lay d y with
      | none => exact h
      | some s2 => exact (lay_used hl).1
theorem plant_sum (ok : s.Ok) (h : (s.plant d y).1 = 0) : usedX (s.plant d y).2.X + (if s.has d = true then (s.raw d).length + 32 else 0) = usedX s.X + y.length + 32 := by
  rcases plant_cases s d y with ⟨e, _⟩ | ⟨_, e⟩
  · exact absurd h e
  · rw [e]
    have hu := used_ins ok.sorted ⟨d, y, s.last + 1⟩
    simp only at hu
    unfold AS.has AS.raw
    cases hf : findX d s.X with
    | none => rw [hf] at hu; simp at hu ⊢; omega
    | some c => rw [hf] at hu; simp at hu ⊢; omega
theorem evict_sum (ok : s.Ok) (d : List UInt8) : usedX (s.evict d).X + (if s.has d = true then (s.raw d).length + 32 else 0) = usedX s.X := by
  have hu := used_del ok.sorted d
  unfold AS.has AS.raw AS.evict
  cases hf : findX d s.X with
  | none => rw [hf] at hu; simp at hu ⊢; omega
  | some c => rw [hf] at hu; simp at hu ⊢; omega
end
end Go.Gx
/-! RoomW -/
namespace Go.Gx
open Go.Proofs
set_option linter.unusedVariables false
set_option linter.unusedSimpArgs false
set_option maxRecDepth 100000
attribute [local irreducible] shaL cutD frontL
set_option maxHeartbeats 8000000 in
theorem casroom_spec {wd cp : Int} (hw : -9223372036854775808 ≤ wd ∧ wd ≤ 9223372036854775807) (hc : -9223372036854775808 ≤ cp ∧ cp ≤ 9223372036854775807) {vl : Value} {l : List Stp} (w0 : World) (hl : Stps w0 vl l) :
    Calls Try.prog 5 #[.int .i64 wd, .int .i64 cp, vl] w0 (Ret0 (.bool true) w0) := by
  have hs : Step [] [] w0 w0 := Step.refl w0
  have hobt := hl.sl.form
  obtain ⟨al, cl, rfl⟩ := hobt
  have hll := hl.len
  have hobt : ∃ k, k = 1 + roundZ wd 32 := ⟨_, rfl⟩
  obtain ⟨k, hke⟩ := hobt
  have hk1 : 1 ≤ k := by omega
  have hk2 : k ≤ 32 := by have := roundZ_lt (a := wd) (n := 32) (by decide); omega
  have hcap := roundZ_lt (a := cp) (n := 67108865) (by decide)
  have hfresh := fun w1 => fresh_spec (a := wd) (c := cp) hw hc w1
  rw [← hke] at hfresh
  refine calls (n := 167) Try.func5 rfl rfl rfl ?_
  repeat (first | refine CW.seq ?_ | refine CW.block ?_ | refine CW.skip ?_ | refine CW.label ?_ | refine CW.exit ?_ | refine CW.condT rfl ?_ | refine CW.condF rfl ?_)
  refine CW.reg ?_
  refine WL.val rfl (run_assign) ?_
  refine WL.nil ?_
  repeat (first | refine CW.seq ?_ | refine CW.block ?_ | refine CW.skip ?_ | refine CW.label ?_ | refine CW.exit ?_ | refine CW.condT rfl ?_ | refine CW.condF rfl ?_)
  refine CW.reg ?_
  refine WL.val rfl (run_move) ?_
  refine WL.val rfl (run_move) ?_
  refine WL.enter rfl (run_call en11 rfl rfl) (hfresh _) ?_
  rintro e w ⟨bs, L1, rfl, hR, hq⟩
  refine ⟨_, rfl, ?_⟩
  replace hs := hs.callAll0 hq
  refine WL.val rfl (run_assign) ?_
  refine WL.nil ?_
  repeat (first | refine CW.seq ?_ | refine CW.block ?_ | refine CW.skip ?_ | refine CW.label ?_ | refine CW.exit ?_ | refine CW.condT rfl ?_ | refine CW.condF rfl ?_)
  refine CW.reg ?_
  refine WL.val rfl (run_move) ?_
  refine WL.val rfl (run_ptrNil Try.underlying24 rfl rfl) ?_
  refine WL.nil ?_
  repeat (first | refine CW.seq ?_ | refine CW.block ?_ | refine CW.skip ?_ | refine CW.label ?_ | refine CW.exit ?_)
  first | refine CW.condP rfl (fun h => ?_) (fun h => ?_) | refine CW.cond rfl (fun h => ?_) (fun h => ?_)
  · cases h
  repeat (first | refine CW.seq ?_ | refine CW.block ?_ | refine CW.skip ?_ | refine CW.label ?_ | refine CW.exit ?_ | refine CW.condT rfl ?_ | refine CW.condF rfl ?_)
  refine CW.reg ?_
  refine WL.val rfl (run_assign) ?_
  refine WL.nil ?_
  repeat (first | refine CW.seq ?_ | refine CW.block ?_ | refine CW.skip ?_ | refine CW.label ?_ | refine CW.exit ?_ | refine CW.condT rfl ?_ | refine CW.condF rfl ?_)
  refine CW.loop (fun m f w' => ∃ i s L D, i ≤ l.length ∧ i ≤ 300 ∧ m = 300 - i ∧ PRep bs s D L ∧ s.Ok ∧ s.Few (2 * i) ∧ s.k = k ∧ usedX s.X ≤ s.cap ∧ Step [] ([] ++ (L ++ D)) w0 w' ∧ Holds f [(2, .slice al l.length cl), (7, .pointer (some ⟨bs, 0, none⟩)), (8, .int .i64 (i : Nat))]) (m := 300) ?_ ?_
  · exact ⟨0, _, L1, [], Nat.zero_le _, Nat.zero_le _, rfl, hR, newS_ok hk1 hk2 (by omega), newS_few, rfl, Nat.zero_le _, by rw [List.nil_append, List.append_nil]; exact hs, rfl, rfl, rfl, trivial⟩
  · rintro m f w ⟨i, s, L, D, hi1, hi3, rfl, hR, ok, few, hk, huc, hs, hf⟩
    have hobt := hf.chain
    obtain ⟨g, rfl⟩ := hobt
    by_cases hlt : i < l.length
    · by_cases h300 : i < 300
      · have hobt : ∃ x, l[i]? = some x := ⟨_, List.getElem?_eq_getElem hlt⟩
        obtain ⟨x, hx⟩ := hobt
        have hxo := hl.ok x (List.mem_of_getElem? hx)
        have hobt := hl.at hx
        obtain ⟨b, off, c0, hc0, hat⟩ := hobt
        cases hc0
        obtain ⟨kind, vb, y, vc, z, d, own, nn⟩ := x
        have hobt := hxo.hb.form
        obtain ⟨ab, cb, hvb⟩ := hobt
        have hobt := hxo.hc.form
        obtain ⟨ac, cc, hvc⟩ := hobt
        replace hvb : vb = .slice ab y.length cb := hvb
        replace hvc : vc = .slice ac z.length cc := hvc
        subst hvb hvc
        have hobt : Sl w0 1 (.slice ab y.length cb) y.length (u8s y) ∧ Room (.slice ab y.length cb) := ⟨hxo.hb, hxo.rb⟩
        obtain ⟨hy1, hy2⟩ := hobt
        have hz1 : Sl w0 1 (.slice ac z.length cc) z.length (u8s z) := hxo.hc
        have hlb : y.length ≤ 9223372036854775807 := hxo.lb
        have hlc : z.length ≤ 9223372036854775807 := hxo.lc
        have hd32 : d.length = 32 := hxo.hd
        have hdl : (u8s d).length = 32 := by rw [u8s, List.length_map, hd32]
        obtain ⟨sc, hsl, hs1, h0, h1, h2, h35, h36, hsD, hat⟩ : ∃ sc : List Value, sc.length = 37 ∧ Cells1 sc ∧ sc[0]? = some (.int .i64 kind) ∧ sc[1]? = some (.slice ab y.length cb) ∧ sc[2]? = some (.slice ac z.length cc) ∧ sc[35]? = some (.bool own) ∧ sc[36]? = some (.int .i64 nn) ∧ (∀ {w b o}, At w b o sc → At w b (o + 3) (u8s d)) ∧ At w0 b (off + i * 37) sc :=
          ⟨_, Stp.cells_len hxo, Stp.cells1 hxo, rfl, rfl, rfl, Stp.get35 hxo, Stp.get36 hxo, fun h => Stp.atD hxo h, hat⟩
        clear hxo
        repeat (first | refine CW.seq ?_ | refine CW.block ?_ | refine CW.skip ?_ | refine CW.label ?_ | refine CW.exit ?_ | refine CW.condT rfl ?_ | refine CW.condF rfl ?_)
        refine CW.reg ?_
        refine WL.val rfl (run_move) ?_
        refine WL.val rfl (run_move) ?_
        refine WL.val rfl (run_lenSl Try.underlying46 rfl) ?_
        refine WL.val rfl (run_bT (run_lss rfl rfl) (by omega)) ?_
        refine WL.val rfl (run_move) ?_
        first | (refine WL.yes rfl rfl rfl ?_; refine WL.val rfl (run_move) ?_) | refine WL.no rfl rfl rfl (.inl rfl) ?_ | refine WL.no rfl rfl rfl (.inr rfl) ?_
        refine WL.yes rfl rfl rfl ?_
        refine WL.val rfl (run_bT (run_lss rfl rfl) (by omega)) ?_
        first | refine WL.val rfl (run_pickT rfl) ?_ | refine WL.val rfl (run_pickF rfl) ?_
        refine WL.nil ?_
        repeat (first | refine CW.seq ?_ | refine CW.block ?_ | refine CW.skip ?_ | refine CW.label ?_ | refine CW.exit ?_)
        first | refine CW.condP rfl (fun h => ?_) (fun h => ?_) | refine CW.cond rfl (fun h => ?_) (fun h => ?_)
        · repeat (first | refine CW.seq ?_ | refine CW.block ?_ | refine CW.skip ?_ | refine CW.label ?_ | refine CW.exit ?_ | refine CW.condT rfl ?_ | refine CW.condF rfl ?_)
          refine CW.reg ?_
          refine WL.val rfl (run_move) ?_
          refine WL.val rfl (run_move) ?_
          first | refine WL.val rfl (run_ixSlN Try.underlying46 ty48 rfl rfl (by omega)) ?_ | refine WL.val rfl (run_ixSl Try.underlying46 ty48 rfl rfl (by omega)) ?_
          refine WL.val rfl (run_loadN ty48 rfl hsl (hat.step hs (by simp))) ?_
          refine WL.alloc ty48 rfl hs (fun b9 w hs => ?_)
          first | refine WL.storeAll ty48 rfl rfl ((hsl)) (hs1) hs (by first | rfl | assumption) (fun w hs => ?_) | refine WL.storeAll_1 ty48 rfl rfl ((hsl)) (hs1) hs (by first | rfl | assumption) (fun w hs => ?_) | refine WL.storeAll_2 ty48 rfl rfl ((hsl)) (hs1) hs (by first | rfl | assumption) (fun w hs => ?_) | refine WL.storeAll_3 ty48 rfl rfl ((hsl)) (hs1) hs (by first | rfl | assumption) (fun w hs => ?_) | refine WL.storeAll_4 ty48 rfl rfl ((hsl)) (hs1) hs (by first | rfl | assumption) (fun w hs => ?_) | refine WL.storeAll ty48 rfl rfl ((hsl)) (hs1) hs (by first | rfl | assumption) (fun w hs => ?_)
          refine WL.nil ?_
          by_cases hyl : y.length ≤ 8192
          · by_cases hzl : z.length ≤ 8192
            · repeat (first | refine CW.seq ?_ | refine CW.block ?_ | refine CW.skip ?_ | refine CW.label ?_ | refine CW.exit ?_ | refine CW.condT rfl ?_ | refine CW.condF rfl ?_)
              refine CW.reg ?_
              refine WL.val rfl (run_field (o' := 1) Try.underlying48 rfl ty22 rfl rfl rfl) ?_
              refine WL.val rfl (run_load1 ty22 rfl (hs.c0 h1)) ?_
              refine WL.val rfl (run_lenSl Try.underlying22 rfl) ?_
              refine WL.val rfl (run_bF (run_gtr rfl rfl) (by omega)) ?_
              refine WL.val rfl (run_move) ?_
              first | (refine WL.yes rfl rfl rfl ?_; refine WL.val rfl (run_field (o' := 2) Try.underlying48 rfl ty22 rfl rfl rfl) ?_) | refine WL.no rfl rfl rfl (.inl rfl) ?_ | refine WL.no rfl rfl rfl (.inr rfl) ?_
              refine WL.yes rfl rfl rfl ?_
              refine WL.val rfl (run_load1 ty22 rfl (hs.c0 h2)) ?_
              first | (refine WL.yes rfl rfl rfl ?_; refine WL.val rfl (run_lenSl Try.underlying22 rfl) ?_) | refine WL.no rfl rfl rfl (.inl rfl) ?_ | refine WL.no rfl rfl rfl (.inr rfl) ?_
              refine WL.yes rfl rfl rfl ?_
              refine WL.val rfl (run_bF (run_gtr rfl rfl) (by omega)) ?_
              first | refine WL.val rfl (run_pickT rfl) ?_ | refine WL.val rfl (run_pickF rfl) ?_
              refine WL.nil ?_
              repeat (first | refine CW.seq ?_ | refine CW.block ?_ | refine CW.skip ?_ | refine CW.label ?_ | refine CW.exit ?_)
              first | refine CW.condP rfl (fun h3 => ?_) (fun h3 => ?_) | refine CW.cond rfl (fun h3 => ?_) (fun h3 => ?_)
              · cases h3
              repeat (first | refine CW.seq ?_ | refine CW.block ?_ | refine CW.skip ?_ | refine CW.label ?_ | refine CW.exit ?_ | refine CW.condT rfl ?_ | refine CW.condF rfl ?_)
              refine CW.reg ?_
              refine WL.val rfl (run_field (o' := 3) Try.underlying48 rfl ty27 rfl rfl rfl) ?_
              refine WL.val rfl (run_loadN ty27 rfl hdl (hsD hs.a0)) ?_
              refine WL.alloc ty27 rfl hs (fun b10 w hs => ?_)
              first | refine WL.storeAll ty27 rfl rfl ((hdl)) (Cells1.u8s _) hs (by first | rfl | assumption) (fun w hs => ?_) | refine WL.storeAll_1 ty27 rfl rfl ((hdl)) (Cells1.u8s _) hs (by first | rfl | assumption) (fun w hs => ?_) | refine WL.storeAll_2 ty27 rfl rfl ((hdl)) (Cells1.u8s _) hs (by first | rfl | assumption) (fun w hs => ?_) | refine WL.storeAll_3 ty27 rfl rfl ((hdl)) (Cells1.u8s _) hs (by first | rfl | assumption) (fun w hs => ?_) | refine WL.storeAll_4 ty27 rfl rfl ((hdl)) (Cells1.u8s _) hs (by first | rfl | assumption) (fun w hs => ?_) | refine WL.storeAll ty27 rfl rfl ((hdl)) (Cells1.u8s _) hs (by first | rfl | assumption) (fun w hs => ?_)
              refine WL.nil ?_
              repeat (first | refine CW.seq ?_ | refine CW.block ?_ | refine CW.skip ?_ | refine CW.label ?_ | refine CW.exit ?_ | refine CW.condT rfl ?_ | refine CW.condF rfl ?_)
              refine CW.reg ?_
              refine WL.val rfl (run_field (o' := 35) Try.underlying48 rfl ty4 rfl rfl rfl) ?_
              refine WL.val rfl (run_load1 ty4 rfl (hs.c1 h35)) ?_
              refine WL.nil ?_
              have hof := fun {w1} (h : Sl w1 1 (.slice ab y.length cb) y.length (u8s y)) => ofR_spec (k := k) w1 h (by omega) hk1 hk2
              have hwid := fun {w1} (hl : Lives (L ++ D) w1) => width_abs hR ok hl
              rw [hk] at hwid
              have hf32 : (frontL y k).length = 32 := frontL_len hk2
              have hfl : (u8s (frontL y k)).length = 32 := by rw [u8s, List.length_map, hf32]
              have hu1 := ok.used
              cases own
              · repeat (first | refine CW.seq ?_ | refine CW.block ?_ | refine CW.skip ?_ | refine CW.label ?_ | refine CW.exit ?_)
                first | refine CW.condP rfl (fun h4 => ?_) (fun h4 => ?_) | refine CW.cond rfl (fun h4 => ?_) (fun h4 => ?_)
                · cases h4
                have hobt : ∃ dd : List UInt8, dd.length = 32 ∧ (u8s dd).length = 32 ∧ Step [] ((b10, blk 27 (u8s dd)) :: (b9, blk 48 sc) :: ([] ++ (L ++ D))) w0 w := ⟨d, hd32, hdl, hs⟩
                obtain ⟨dd, hdd, hddl, hs⟩ := hobt
                have hobt : ∃ th, s.has dd = th := ⟨_, rfl⟩
                obtain ⟨th, hth⟩ := hobt
                have hobt : ∃ x, s.raw dd = x := ⟨_, rfl⟩
                obtain ⟨rw0, hrw0⟩ := hobt
                have hraw := fun {w1} (hl : Lives (L ++ D) w1) => raw_abs (d := dd) hR ok hl hdd
                rw [hth, hrw0] at hraw
                have hrl : rw0.length ≤ usedX s.X := by
                  rw [← hrw0]
                  unfold AS.raw
                  cases hf : findX dd s.X with
                  | none => simp
                  | some c => have := used_mem (findX_some hf).1; simp only; omega
                repeat (first | refine CW.seq ?_ | refine CW.block ?_ | refine CW.skip ?_ | refine CW.label ?_ | refine CW.exit ?_ | refine CW.condT rfl ?_ | refine CW.condF rfl ?_)
                refine CW.reg ?_
                refine WL.val rfl (run_move) ?_
                refine WL.enter rfl (run_call en22 rfl rfl) (used_abs hR ok (Own.live (A := [_, _]) hs)) ?_
                rintro e w ⟨rfl, hq⟩
                refine ⟨_, rfl, ?_⟩
                replace hs := hs.callE hq
                refine WL.val rfl (run_assign) ?_
                refine WL.nil ?_
                repeat (first | refine CW.seq ?_ | refine CW.block ?_ | refine CW.skip ?_ | refine CW.label ?_ | refine CW.exit ?_ | refine CW.condT rfl ?_ | refine CW.condF rfl ?_)
                refine CW.reg ?_
                refine WL.val rfl (run_move) ?_
                refine WL.val rfl (run_loadN ty27 rfl hddl hs.a0) ?_
                refine WL.enter rfl (run_call en17 rfl rfl) (hraw (Own.live (A := [_, _]) hs)) ?_
                rintro e w ⟨v', Lv', rfl, hu', hq⟩
                refine ⟨_, rfl, ?_⟩
                replace hs := Own.keep (A := [_, _]) hs hq
                refine WL.val rfl (run_move) ?_
                refine WL.val rfl (run_extract rfl rfl) ?_
                refine WL.val rfl (run_extract rfl rfl) ?_
                refine WL.val rfl (run_assign) ?_
                refine WL.val rfl (run_assign) ?_
                refine WL.nil ?_
                have hobt := hu'.form
                obtain ⟨va, vc, rfl⟩ := hobt
                replace hR := hR.mono (D' := Lv' ++ D) fun p hp => List.mem_append_right _ hp
                have hobt : ∃ D1, Lv' ++ D = D1 := ⟨_, rfl⟩
                obtain ⟨D1, hD1⟩ := hobt
                rw [hD1] at hR hs
                repeat (first | refine CW.seq ?_ | refine CW.block ?_ | refine CW.skip ?_ | refine CW.label ?_ | refine CW.exit ?_ | refine CW.condT rfl ?_ | refine CW.condF rfl ?_)
                refine CW.reg ?_
                refine WL.val rfl (run_field (o' := 0) Try.underlying48 rfl ty3 rfl rfl rfl) ?_
                refine WL.val rfl (run_load1 ty3 rfl (hs.c1 h0)) ?_
                refine WL.nil ?_
                by_cases k1 : kind = 1
                · repeat (first | refine CW.seq ?_ | refine CW.block ?_ | refine CW.skip ?_ | refine CW.label ?_ | refine CW.exit ?_ | refine CW.condT rfl ?_ | refine CW.condF rfl ?_)
                  refine CW.reg ?_
                  refine WL.val rfl (run_bT (run_eql rfl rfl) (by exact k1)) ?_
                  refine WL.val rfl (run_assign) ?_
                  refine WL.nil ?_
                  repeat (first | refine CW.seq ?_ | refine CW.block ?_ | refine CW.skip ?_ | refine CW.label ?_ | refine CW.exit ?_)
                  first | refine CW.condP rfl (fun hc1 => ?_) (fun hc1 => ?_) | refine CW.cond rfl (fun hc1 => ?_) (fun hc1 => ?_)
                  · have hput := fun {w1} (hl : Lives (L ++ D1) w1) h1 h3 => put_abs (v := .slice ab y.length cb) (y := y) (w0 := w1) hR ok few (by omega) hl h1 hy2 h3 (by omega)
                    have ok2 := ok.put y
                    have few2 := few.put y
                    have hk3 : (s.put y).2.2.k = k := (put_k s y).trans hk
                    have hcp2 := put_used huc y
                    have hpl : (s.put y).1.length = 32 := by
                      rcases put_cases s y with ⟨_, _, e⟩ | ⟨_, e, _⟩ | ⟨_, e, _⟩ <;> rw [e]
                      · exact zD_len
                      · exact frontL_len (by omega)
                      · exact frontL_len (by omega)
                    have hpx : (s.put y).2.1 ≠ 0 → usedX (s.put y).2.2.X = usedX s.X := fun h => by
                      rcases put_cases s y with ⟨_, e, _⟩ | ⟨e, _⟩ | ⟨e, _⟩
                      · rw [e]
                      · exact absurd e h
                      · exact absurd e h
                    have hobt : ∃ s2, (s.put y).2.2 = s2 := ⟨_, rfl⟩
                    obtain ⟨s2, hs2⟩ := hobt
                    have hobt : ∃ er, (s.put y).2.1 = er := ⟨_, rfl⟩
                    obtain ⟨er, her⟩ := hobt
                    have hobt : ∃ pd, (s.put y).1 = pd := ⟨_, rfl⟩
                    obtain ⟨pd, hpd⟩ := hobt
                    rw [hs2] at ok2 few2 hk3 hcp2 hpx
                    rw [her] at hpx
                    rw [hpd] at hpl
                    simp only [hs2, her, hpd] at hput
                    have hpll : (u8s pd).length = 32 := by rw [u8s, List.length_map, hpl]
                    repeat (first | refine CW.seq ?_ | refine CW.block ?_ | refine CW.skip ?_ | refine CW.label ?_ | refine CW.exit ?_ | refine CW.condT rfl ?_ | refine CW.condF rfl ?_)
                    refine CW.reg ?_
                    refine WL.val rfl (run_move) ?_
                    refine WL.val rfl (run_field (o' := 1) Try.underlying48 rfl ty22 rfl rfl rfl) ?_
                    refine WL.val rfl (run_load1 ty22 rfl (hs.c1 h1)) ?_
                    refine WL.enter rfl (run_call en12 rfl rfl) (hput (Own.live (A := [_, _]) hs) (hy1.step0 hs.clear) (Own.old (A := [_, _]) hs hy1)) ?_
                    rintro e w ⟨L2, D2, rfl, hR2, hq⟩
                    refine ⟨_, rfl, ?_⟩
                    replace hs := Own.put (A := [_, _]) hs hq
                    refine WL.val rfl (run_move) ?_
                    refine WL.val rfl (run_extract rfl rfl) ?_
                    refine WL.val rfl (run_extract rfl rfl) ?_
                    refine WL.alloc ty27 rfl hs (fun b14 w hs => ?_)
                    first | refine WL.storeAll ty27 rfl rfl ((hpll)) (Cells1.u8s _) hs (by first | rfl | assumption) (fun w hs => ?_) | refine WL.storeAll_1 ty27 rfl rfl ((hpll)) (Cells1.u8s _) hs (by first | rfl | assumption) (fun w hs => ?_) | refine WL.storeAll_2 ty27 rfl rfl ((hpll)) (Cells1.u8s _) hs (by first | rfl | assumption) (fun w hs => ?_) | refine WL.storeAll_3 ty27 rfl rfl ((hpll)) (Cells1.u8s _) hs (by first | rfl | assumption) (fun w hs => ?_) | refine WL.storeAll_4 ty27 rfl rfl ((hpll)) (Cells1.u8s _) hs (by first | rfl | assumption) (fun w hs => ?_) | refine WL.storeAll ty27 rfl rfl ((hpll)) (Cells1.u8s _) hs (by first | rfl | assumption) (fun w hs => ?_)
                    refine WL.val rfl (run_assign) ?_
                    refine WL.nil ?_
                    have hobt : ∃ Dn, D2 ++ D1 = Dn := ⟨_, rfl⟩
                    obtain ⟨Dn, hDn⟩ := hobt
                    rw [hDn] at hR2 hs
                    by_cases he : er = 0
                    · repeat (first | refine CW.seq ?_ | refine CW.block ?_ | refine CW.skip ?_ | refine CW.label ?_ | refine CW.exit ?_ | refine CW.condT rfl ?_ | refine CW.condF rfl ?_)
                      refine CW.reg ?_
                      refine WL.val rfl (run_move) ?_
                      refine WL.val rfl (run_bF (run_neq rfl rfl) (by omega)) ?_
                      refine WL.val rfl (run_move) ?_
                      first | (refine WL.yes rfl rfl rfl ?_; refine WL.val rfl (run_move) ?_) | refine WL.no rfl rfl rfl (.inl rfl) ?_ | refine WL.no rfl rfl rfl (.inr rfl) ?_
                      first | refine WL.no rfl rfl rfl (.inl rfl) ?_ | refine WL.no rfl rfl rfl (.inr rfl) ?_
                      first | (refine WL.yes rfl rfl rfl ?_; refine WL.val rfl (run_move) ?_) | refine WL.no rfl rfl rfl (.inl rfl) ?_ | refine WL.no rfl rfl rfl (.inr rfl) ?_
                      first | (refine WL.yes rfl rfl rfl ?_; refine WL.val rfl (run_neq rfl rfl) ?_) | refine WL.no rfl rfl rfl (.inl rfl) ?_ | refine WL.no rfl rfl rfl (.inr rfl) ?_
                      first | refine WL.val rfl (run_pickT rfl) ?_ | refine WL.val rfl (run_pickF rfl) ?_
                      refine WL.nil ?_
                      repeat (first | refine CW.seq ?_ | refine CW.block ?_ | refine CW.skip ?_ | refine CW.label ?_ | refine CW.exit ?_)
                      first | refine CW.condP rfl (fun hc2 => ?_) (fun hc2 => ?_) | refine CW.cond rfl (fun hc2 => ?_) (fun hc2 => ?_)
                      · cases hc2
                      replace hs := hs.tail.tail.tail
                      repeat (first | refine CW.seq ?_ | refine CW.block ?_ | refine CW.skip ?_ | refine CW.label ?_ | refine CW.exit ?_ | refine CW.condT rfl ?_ | refine CW.condF rfl ?_)
                      refine CW.reg ?_
                      refine WL.val rfl (run_move) ?_
                      refine WL.enter rfl (run_call en27 rfl rfl) (reckoned_spec hR2 ok2 (Own.live (A := []) hs)) ?_
                      rintro e w ⟨rfl, hq⟩
                      refine ⟨_, rfl, ?_⟩
                      replace hs := hs.callE hq
                      first | refine WL.val rfl (run_notB rfl) ?_ | refine WL.val rfl (run_not rfl) ?_
                      refine WL.val rfl (run_move) ?_
                      first | (refine WL.yes rfl rfl rfl ?_; refine WL.val rfl (run_move) ?_) | refine WL.no rfl rfl rfl (.inl rfl) ?_ | refine WL.no rfl rfl rfl (.inr rfl) ?_
                      refine WL.yes rfl rfl rfl ?_
                      refine WL.enter rfl (run_call en22 rfl rfl) (used_abs hR2 ok2 (Own.live (A := []) hs)) ?_
                      rintro e w ⟨rfl, hq⟩
                      refine ⟨_, rfl, ?_⟩
                      replace hs := hs.callE hq
                      first | (refine WL.yes rfl rfl rfl ?_; refine WL.val rfl (run_move) ?_) | refine WL.no rfl rfl rfl (.inl rfl) ?_ | refine WL.no rfl rfl rfl (.inr rfl) ?_
                      refine WL.yes rfl rfl rfl ?_
                      refine WL.enter rfl (run_call en23 rfl rfl) (cap_abs hR2 ok2 (Own.live (A := []) hs)) ?_
                      rintro e w ⟨rfl, hq⟩
                      refine ⟨_, rfl, ?_⟩
                      replace hs := hs.callE hq
                      refine WL.yes rfl rfl rfl ?_
                      refine WL.val rfl (run_bF (run_gtr rfl rfl) (by omega)) ?_
                      first | refine WL.val rfl (run_pickT rfl) ?_ | refine WL.val rfl (run_pickF rfl) ?_
                      refine WL.nil ?_
                      repeat (first | refine CW.seq ?_ | refine CW.block ?_ | refine CW.skip ?_ | refine CW.label ?_ | refine CW.exit ?_)
                      first | refine CW.condP rfl (fun h8 => ?_) (fun h8 => ?_) | refine CW.cond rfl (fun h8 => ?_) (fun h8 => ?_)
                      · cases h8
                      repeat (first | refine CW.seq ?_ | refine CW.block ?_ | refine CW.skip ?_ | refine CW.label ?_ | refine CW.exit ?_ | refine CW.condT rfl ?_ | refine CW.condF rfl ?_)
                      refine CW.reg ?_
                      refine WL.val rfl (run_move) ?_
                      refine WL.val rfl (run_add (c := ((i + 1 : Nat) : Int)) rfl rfl (by omega) (by omega)) ?_
                      refine WL.val rfl (run_assign) ?_
                      refine WL.nil ?_
                      repeat (first | refine CW.seq ?_ | refine CW.block ?_ | refine CW.skip ?_ | refine CW.label ?_ | refine CW.exit ?_)
                      refine (show _ ∧ _ from ⟨rfl, _, ?_, i + 1, s2, L2, Dn, by omega, by omega, rfl, hR2, ok2, few2.mono (by omega), hk3, hcp2, hs, rfl, rfl, rfl, trivial⟩)
                      omega
                    · have hpe := hpx he
                      repeat (first | refine CW.seq ?_ | refine CW.block ?_ | refine CW.skip ?_ | refine CW.label ?_ | refine CW.exit ?_ | refine CW.condT rfl ?_ | refine CW.condF rfl ?_)
                      refine CW.reg ?_
                      refine WL.val rfl (run_move) ?_
                      refine WL.val rfl (run_bT (run_neq rfl rfl) (by omega)) ?_
                      refine WL.val rfl (run_move) ?_
                      first | (refine WL.yes rfl rfl rfl ?_; refine WL.val rfl (run_move) ?_) | refine WL.no rfl rfl rfl (.inl rfl) ?_ | refine WL.no rfl rfl rfl (.inr rfl) ?_
                      refine WL.yes rfl rfl rfl ?_
                      refine WL.enter rfl (run_call en22 rfl rfl) (used_abs hR2 ok2 (Own.live (A := [_, _, _]) hs)) ?_
                      rintro e w ⟨rfl, hq⟩
                      refine ⟨_, rfl, ?_⟩
                      replace hs := hs.callE hq
                      first | (refine WL.yes rfl rfl rfl ?_; refine WL.val rfl (run_move) ?_) | refine WL.no rfl rfl rfl (.inl rfl) ?_ | refine WL.no rfl rfl rfl (.inr rfl) ?_
                      refine WL.yes rfl rfl rfl ?_
                      refine WL.val rfl (run_bF (run_neq rfl rfl) (by omega)) ?_
                      first | refine WL.val rfl (run_pickT rfl) ?_ | refine WL.val rfl (run_pickF rfl) ?_
                      refine WL.nil ?_
                      repeat (first | refine CW.seq ?_ | refine CW.block ?_ | refine CW.skip ?_ | refine CW.label ?_ | refine CW.exit ?_)
                      first | refine CW.condP rfl (fun hc2 => ?_) (fun hc2 => ?_) | refine CW.cond rfl (fun hc2 => ?_) (fun hc2 => ?_)
                      · cases hc2
                      replace hs := hs.tail.tail.tail
                      repeat (first | refine CW.seq ?_ | refine CW.block ?_ | refine CW.skip ?_ | refine CW.label ?_ | refine CW.exit ?_ | refine CW.condT rfl ?_ | refine CW.condF rfl ?_)
                      refine CW.reg ?_
                      refine WL.val rfl (run_move) ?_
                      refine WL.enter rfl (run_call en27 rfl rfl) (reckoned_spec hR2 ok2 (Own.live (A := []) hs)) ?_
                      rintro e w ⟨rfl, hq⟩
                      refine ⟨_, rfl, ?_⟩
                      replace hs := hs.callE hq
                      first | refine WL.val rfl (run_notB rfl) ?_ | refine WL.val rfl (run_not rfl) ?_
                      refine WL.val rfl (run_move) ?_
                      first | (refine WL.yes rfl rfl rfl ?_; refine WL.val rfl (run_move) ?_) | refine WL.no rfl rfl rfl (.inl rfl) ?_ | refine WL.no rfl rfl rfl (.inr rfl) ?_
                      refine WL.yes rfl rfl rfl ?_
                      refine WL.enter rfl (run_call en22 rfl rfl) (used_abs hR2 ok2 (Own.live (A := []) hs)) ?_
                      rintro e w ⟨rfl, hq⟩
                      refine ⟨_, rfl, ?_⟩
                      replace hs := hs.callE hq
                      first | (refine WL.yes rfl rfl rfl ?_; refine WL.val rfl (run_move) ?_) | refine WL.no rfl rfl rfl (.inl rfl) ?_ | refine WL.no rfl rfl rfl (.inr rfl) ?_
                      refine WL.yes rfl rfl rfl ?_
                      refine WL.enter rfl (run_call en23 rfl rfl) (cap_abs hR2 ok2 (Own.live (A := []) hs)) ?_
                      rintro e w ⟨rfl, hq⟩
                      refine ⟨_, rfl, ?_⟩
                      replace hs := hs.callE hq
                      refine WL.yes rfl rfl rfl ?_
                      refine WL.val rfl (run_bF (run_gtr rfl rfl) (by omega)) ?_
                      first | refine WL.val rfl (run_pickT rfl) ?_ | refine WL.val rfl (run_pickF rfl) ?_
                      refine WL.nil ?_
                      repeat (first | refine CW.seq ?_ | refine CW.block ?_ | refine CW.skip ?_ | refine CW.label ?_ | refine CW.exit ?_)
                      first | refine CW.condP rfl (fun h8 => ?_) (fun h8 => ?_) | refine CW.cond rfl (fun h8 => ?_) (fun h8 => ?_)
                      · cases h8
                      repeat (first | refine CW.seq ?_ | refine CW.block ?_ | refine CW.skip ?_ | refine CW.label ?_ | refine CW.exit ?_ | refine CW.condT rfl ?_ | refine CW.condF rfl ?_)
                      refine CW.reg ?_
                      refine WL.val rfl (run_move) ?_
                      refine WL.val rfl (run_add (c := ((i + 1 : Nat) : Int)) rfl rfl (by omega) (by omega)) ?_
                      refine WL.val rfl (run_assign) ?_
                      refine WL.nil ?_
                      repeat (first | refine CW.seq ?_ | refine CW.block ?_ | refine CW.skip ?_ | refine CW.label ?_ | refine CW.exit ?_)
                      refine (show _ ∧ _ from ⟨rfl, _, ?_, i + 1, s2, L2, Dn, by omega, by omega, rfl, hR2, ok2, few2.mono (by omega), hk3, hcp2, hs, rfl, rfl, rfl, trivial⟩)
                      omega
                  · cases hc1
                · repeat (first | refine CW.seq ?_ | refine CW.block ?_ | refine CW.skip ?_ | refine CW.label ?_ | refine CW.exit ?_ | refine CW.condT rfl ?_ | refine CW.condF rfl ?_)
                  refine CW.reg ?_
                  refine WL.val rfl (run_bF (run_eql rfl rfl) (by exact k1)) ?_
                  refine WL.val rfl (run_assign) ?_
                  refine WL.nil ?_
                  repeat (first | refine CW.seq ?_ | refine CW.block ?_ | refine CW.skip ?_ | refine CW.label ?_ | refine CW.exit ?_)
                  first | refine CW.condP rfl (fun hc1 => ?_) (fun hc1 => ?_) | refine CW.cond rfl (fun hc1 => ?_) (fun hc1 => ?_)
                  · cases hc1
                  by_cases k6 : kind = 6
                  · repeat (first | refine CW.seq ?_ | refine CW.block ?_ | refine CW.skip ?_ | refine CW.label ?_ | refine CW.exit ?_ | refine CW.condT rfl ?_ | refine CW.condF rfl ?_)
                    refine CW.reg ?_
                    refine WL.val rfl (run_bT (run_eql rfl rfl) (by exact k6)) ?_
                    refine WL.val rfl (run_assign) ?_
                    refine WL.nil ?_
                    repeat (first | refine CW.seq ?_ | refine CW.block ?_ | refine CW.skip ?_ | refine CW.label ?_ | refine CW.exit ?_)
                    first | refine CW.condP rfl (fun hc1 => ?_) (fun hc1 => ?_) | refine CW.cond rfl (fun hc1 => ?_) (fun hc1 => ?_)
                    · have hpl := fun {w1} (hl : Lives (L ++ D1) w1) h1 h3 => plant_abs (v := .slice ac z.length cc) (y := z) (d := dd) (w0 := w1) hR ok few (by omega) hl hdd h1 h3 (by omega)
                      have ok2 := ok.plant hdd z
                      have few2 := few.plant dd z
                      have hk3 : (s.plant dd z).2.k = k := (plant_k s dd z).trans hk
                      have hcp2 := plant_used huc dd z
                      have hsum := plant_sum (d := dd) (y := z) ok
                      have hsame : (s.plant dd z).1 ≠ 0 → usedX (s.plant dd z).2.X = usedX s.X := fun h => by
                        rcases plant_cases s dd z with ⟨_, e⟩ | ⟨e, _⟩
                        · rw [e]
                        · exact absurd e h
                      have hobt : ∃ s2, (s.plant dd z).2 = s2 := ⟨_, rfl⟩
                      obtain ⟨s2, hs2⟩ := hobt
                      have hobt : ∃ er, (s.plant dd z).1 = er := ⟨_, rfl⟩
                      obtain ⟨er, her⟩ := hobt
                      rw [hs2] at ok2 few2 hk3 hcp2 hsum hsame
                      rw [her] at hsum hsame
                      rw [hth, hrw0] at hsum
                      simp only [hs2, her] at hpl
                      have hu2 := ok2.used
                      repeat (first | refine CW.seq ?_ | refine CW.block ?_ | refine CW.skip ?_ | refine CW.label ?_ | refine CW.exit ?_ | refine CW.condT rfl ?_ | refine CW.condF rfl ?_)
                      refine CW.reg ?_
                      refine WL.val rfl (run_move) ?_
                      refine WL.val rfl (run_loadN ty27 rfl hddl hs.a0) ?_
                      refine WL.val rfl (run_field (o' := 2) Try.underlying48 rfl ty22 rfl rfl rfl) ?_
                      refine WL.val rfl (run_load1 ty22 rfl (hs.c1 h2)) ?_
                      refine WL.enter rfl (run_call en15 rfl rfl) (hpl (Own.live (A := [_, _]) hs) (hz1.step0 hs.clear) (Own.old (A := [_, _]) hs hz1)) ?_
                      rintro e w ⟨L2, D2, rfl, hR2, hq⟩
                      refine ⟨_, rfl, ?_⟩
                      replace hs := Own.put (A := [_, _]) hs hq
                      refine WL.val rfl (run_assign) ?_
                      refine WL.nil ?_
                      have hobt : ∃ Dn, D2 ++ D1 = Dn := ⟨_, rfl⟩
                      obtain ⟨Dn, hDn⟩ := hobt
                      rw [hDn] at hR2 hs
                      by_cases he : er = 0
                      · have hsm := hsum he
                        cases th
                        · replace hsm : usedX s2.X = usedX s.X + z.length + 32 := by simpa using hsm
                          repeat (first | refine CW.seq ?_ | refine CW.block ?_ | refine CW.skip ?_ | refine CW.label ?_ | refine CW.exit ?_ | refine CW.condT rfl ?_ | refine CW.condF rfl ?_)
                          refine CW.quiet mixedP (by kernel_rfl) hs ?_
                          refine QL.val rfl (fun w hs => run_move) ?_
                          refine QL.val rfl (fun w hs => run_bT (run_eql rfl rfl) (by omega)) ?_
                          refine QL.val rfl (fun w hs => run_move) ?_
                          first | (refine QL.yes rfl rfl rfl ?_; refine QL.val rfl (fun w hs => run_move) ?_) | refine QL.no rfl rfl rfl (.inl rfl) ?_ | refine QL.no rfl rfl rfl (.inr rfl) ?_
                          first | refine QL.val rfl (fun w hs => run_pickT rfl) ?_ | refine QL.val rfl (fun w hs => run_pickF rfl) ?_
                          refine QL.val rfl (fun w hs => run_move) ?_
                          first | (refine QL.yes rfl rfl rfl ?_; refine QL.val rfl (fun w hs => run_move) ?_) | refine QL.no rfl rfl rfl (.inl rfl) ?_ | refine QL.no rfl rfl rfl (.inr rfl) ?_
                          first | refine QL.no rfl rfl rfl (.inl rfl) ?_ | refine QL.no rfl rfl rfl (.inr rfl) ?_
                          first | (refine QL.yes rfl rfl rfl ?_; refine QL.val rfl (fun w hs => run_move) ?_) | refine QL.no rfl rfl rfl (.inl rfl) ?_ | refine QL.no rfl rfl rfl (.inr rfl) ?_
                          first | (refine QL.yes rfl rfl rfl ?_; refine QL.val rfl (fun w hs => run_move) ?_) | refine QL.no rfl rfl rfl (.inl rfl) ?_ | refine QL.no rfl rfl rfl (.inr rfl) ?_
                          first | (refine QL.yes rfl rfl rfl ?_; refine QL.val rfl (fun w hs => run_lenSl Try.underlying22 rfl) ?_) | refine QL.no rfl rfl rfl (.inl rfl) ?_ | refine QL.no rfl rfl rfl (.inr rfl) ?_
                          first | (refine QL.yes rfl rfl rfl ?_; refine QL.val rfl (fun w hs => run_sub rfl rfl rfl (by omega)) ?_) | refine QL.no rfl rfl rfl (.inl rfl) ?_ | refine QL.no rfl rfl rfl (.inr rfl) ?_
                          first | (refine QL.yes rfl rfl rfl ?_; refine QL.val rfl (fun w hs => run_field (o' := 2) Try.underlying48 rfl ty22 rfl rfl rfl) ?_) | refine QL.no rfl rfl rfl (.inl rfl) ?_ | refine QL.no rfl rfl rfl (.inr rfl) ?_
                          first | (refine QL.yes rfl rfl rfl ?_; (first | refine QL.val rfl (fun w hs => run_load1 ty22 rfl (hs.c0 rfl)) ?_ | refine QL.val rfl (fun w hs => run_load1 ty22 rfl (hs.c1 rfl)) ?_ | refine QL.val rfl (fun w hs => run_load1 ty22 rfl (hs.c2 rfl)) ?_ | refine QL.val rfl (fun w hs => run_load1 ty22 rfl (hs.c3 rfl)) ?_ | refine QL.val rfl (fun w hs => run_load1 ty22 rfl (hs.c4 rfl)) ?_ | refine QL.val rfl (fun w hs => run_load1 ty22 rfl (hs.c5 rfl)) ?_ | refine QL.val rfl (fun w hs => run_load1 ty22 rfl (hs.c0 rfl)) ?_)) | refine QL.no rfl rfl rfl (.inl rfl) ?_ | refine QL.no rfl rfl rfl (.inr rfl) ?_
                          first | (refine QL.yes rfl rfl rfl ?_; refine QL.val rfl (fun w hs => run_lenSl Try.underlying22 rfl) ?_) | refine QL.no rfl rfl rfl (.inl rfl) ?_ | refine QL.no rfl rfl rfl (.inr rfl) ?_
                          first | (refine QL.yes rfl rfl rfl ?_; refine QL.val rfl (fun w hs => run_add rfl rfl rfl (by omega)) ?_) | refine QL.no rfl rfl rfl (.inl rfl) ?_ | refine QL.no rfl rfl rfl (.inr rfl) ?_
                          first | (refine QL.yes rfl rfl rfl ?_; refine QL.val rfl (fun w hs => run_neq rfl rfl) ?_) | refine QL.no rfl rfl rfl (.inl rfl) ?_ | refine QL.no rfl rfl rfl (.inr rfl) ?_
                          first | refine QL.val rfl (fun w hs => run_pickT rfl) ?_ | refine QL.val rfl (fun w hs => run_pickF rfl) ?_
                          refine QL.val rfl (fun w hs => run_move) ?_
                          first | (refine QL.yes rfl rfl rfl ?_; refine QL.val rfl (fun w hs => run_move) ?_) | refine QL.no rfl rfl rfl (.inl rfl) ?_ | refine QL.no rfl rfl rfl (.inr rfl) ?_
                          refine QL.yes rfl rfl rfl ?_
                          refine QL.val rfl (fun w hs => run_bT (run_eql rfl rfl) (by omega)) ?_
                          first | (refine QL.yes rfl rfl rfl ?_; refine QL.val rfl (fun w hs => run_move) ?_) | refine QL.no rfl rfl rfl (.inl rfl) ?_ | refine QL.no rfl rfl rfl (.inr rfl) ?_
                          first | (refine QL.yes rfl rfl rfl ?_; refine QL.val rfl (fun w hs => run_move) ?_) | refine QL.no rfl rfl rfl (.inl rfl) ?_ | refine QL.no rfl rfl rfl (.inr rfl) ?_
                          first | (refine QL.yes rfl rfl rfl ?_; (first | refine QL.val rfl (fun w hs => run_notB rfl) ?_ | refine QL.val rfl (fun w hs => run_not rfl) ?_)) | refine QL.no rfl rfl rfl (.inl rfl) ?_ | refine QL.no rfl rfl rfl (.inr rfl) ?_
                          first | (refine QL.yes rfl rfl rfl ?_; (first | refine QL.val rfl (fun w hs => run_pickT rfl) ?_ | refine QL.val rfl (fun w hs => run_pickF rfl) ?_)) | refine QL.no rfl rfl rfl (.inl rfl) ?_ | refine QL.no rfl rfl rfl (.inr rfl) ?_
                          first | (refine QL.yes rfl rfl rfl ?_; refine QL.val rfl (fun w hs => run_move) ?_) | refine QL.no rfl rfl rfl (.inl rfl) ?_ | refine QL.no rfl rfl rfl (.inr rfl) ?_
                          first | (refine QL.yes rfl rfl rfl ?_; refine QL.val rfl (fun w hs => run_move) ?_) | refine QL.no rfl rfl rfl (.inl rfl) ?_ | refine QL.no rfl rfl rfl (.inr rfl) ?_
                          refine QL.yes rfl rfl rfl ?_
                          refine QL.enter rfl (fun w => run_call en22 rfl rfl) (fun w hs => used_abs hR2 ok2 (Own.live (A := [_, _]) hs)) ?_
                          first | (refine QL.yes rfl rfl rfl ?_; refine QL.val rfl (fun w hs => run_move) ?_) | refine QL.no rfl rfl rfl (.inl rfl) ?_ | refine QL.no rfl rfl rfl (.inr rfl) ?_
                          first | (refine QL.yes rfl rfl rfl ?_; refine QL.val rfl (fun w hs => run_field (o' := 2) Try.underlying48 rfl ty22 rfl rfl rfl) ?_) | refine QL.no rfl rfl rfl (.inl rfl) ?_ | refine QL.no rfl rfl rfl (.inr rfl) ?_
                          refine QL.yes rfl rfl rfl ?_
                          refine QL.val rfl (fun w hs => run_load1 ty22 rfl (hs.c1 h2)) ?_
                          first | (refine QL.yes rfl rfl rfl ?_; refine QL.val rfl (fun w hs => run_lenSl Try.underlying22 rfl) ?_) | refine QL.no rfl rfl rfl (.inl rfl) ?_ | refine QL.no rfl rfl rfl (.inr rfl) ?_
                          refine QL.yes rfl rfl rfl ?_
                          refine QL.val rfl (fun w hs => run_add (c := ((usedX s.X + z.length : Nat) : Int)) rfl rfl (by omega) (by omega)) ?_
                          refine QL.yes rfl rfl rfl ?_
                          refine QL.val rfl (fun w hs => run_add (c := ((usedX s.X + z.length + 32 : Nat) : Int)) rfl rfl (by omega) (by omega)) ?_
                          refine QL.yes rfl rfl rfl ?_
                          refine QL.val rfl (fun w hs => run_bF (run_neq rfl rfl) (by omega)) ?_
                          first | (refine QL.yes rfl rfl rfl ?_; (first | refine QL.val rfl (fun w hs => run_pickT rfl) ?_ | refine QL.val rfl (fun w hs => run_pickF rfl) ?_)) | refine QL.no rfl rfl rfl (.inl rfl) ?_ | refine QL.no rfl rfl rfl (.inr rfl) ?_
                          first | refine QL.val rfl (fun w hs => run_pickT rfl) ?_ | refine QL.val rfl (fun w hs => run_pickF rfl) ?_
                          refine QL.val rfl (fun w hs => run_move) ?_
                          first | (refine QL.yes rfl rfl rfl ?_; refine QL.val rfl (fun w hs => run_move) ?_) | refine QL.no rfl rfl rfl (.inl rfl) ?_ | refine QL.no rfl rfl rfl (.inr rfl) ?_
                          refine QL.yes rfl rfl rfl ?_
                          refine QL.val rfl (fun w hs => run_bF (run_neq rfl rfl) (by omega)) ?_
                          first | (refine QL.yes rfl rfl rfl ?_; refine QL.val rfl (fun w hs => run_move) ?_) | refine QL.no rfl rfl rfl (.inl rfl) ?_ | refine QL.no rfl rfl rfl (.inr rfl) ?_
                          first | (refine QL.yes rfl rfl rfl ?_; refine QL.val rfl (fun w hs => run_move) ?_) | refine QL.no rfl rfl rfl (.inl rfl) ?_ | refine QL.no rfl rfl rfl (.inr rfl) ?_
                          first | refine QL.no rfl rfl rfl (.inl rfl) ?_ | refine QL.no rfl rfl rfl (.inr rfl) ?_
                          first | (refine QL.yes rfl rfl rfl ?_; refine QL.val rfl (fun w hs => run_move) ?_) | refine QL.no rfl rfl rfl (.inl rfl) ?_ | refine QL.no rfl rfl rfl (.inr rfl) ?_
                          first | (refine QL.yes rfl rfl rfl ?_; refine QL.val rfl (fun w hs => run_neq rfl rfl) ?_) | refine QL.no rfl rfl rfl (.inl rfl) ?_ | refine QL.no rfl rfl rfl (.inr rfl) ?_
                          first | (refine QL.yes rfl rfl rfl ?_; (first | refine QL.val rfl (fun w hs => run_pickT rfl) ?_ | refine QL.val rfl (fun w hs => run_pickF rfl) ?_)) | refine QL.no rfl rfl rfl (.inl rfl) ?_ | refine QL.no rfl rfl rfl (.inr rfl) ?_
                          first | refine QL.val rfl (fun w hs => run_pickT rfl) ?_ | refine QL.val rfl (fun w hs => run_pickF rfl) ?_
                          refine QL.nil (fun w hs => ?_)
                          repeat (first | refine CW.seq ?_ | refine CW.block ?_ | refine CW.skip ?_ | refine CW.label ?_ | refine CW.exit ?_)
                          first | refine CW.condP rfl (fun hc2 => ?_) (fun hc2 => ?_) | refine CW.cond rfl (fun hc2 => ?_) (fun hc2 => ?_)
                          · cases hc2
                          replace hs := hs.tail.tail
                          repeat (first | refine CW.seq ?_ | refine CW.block ?_ | refine CW.skip ?_ | refine CW.label ?_ | refine CW.exit ?_ | refine CW.condT rfl ?_ | refine CW.condF rfl ?_)
                          refine CW.reg ?_
                          refine WL.val rfl (run_move) ?_
                          refine WL.enter rfl (run_call en27 rfl rfl) (reckoned_spec hR2 ok2 (Own.live (A := []) hs)) ?_
                          rintro e w ⟨rfl, hq⟩
                          refine ⟨_, rfl, ?_⟩
                          replace hs := hs.callE hq
                          first | refine WL.val rfl (run_notB rfl) ?_ | refine WL.val rfl (run_not rfl) ?_
                          refine WL.val rfl (run_move) ?_
                          first | (refine WL.yes rfl rfl rfl ?_; refine WL.val rfl (run_move) ?_) | refine WL.no rfl rfl rfl (.inl rfl) ?_ | refine WL.no rfl rfl rfl (.inr rfl) ?_
                          refine WL.yes rfl rfl rfl ?_
                          refine WL.enter rfl (run_call en22 rfl rfl) (used_abs hR2 ok2 (Own.live (A := []) hs)) ?_
                          rintro e w ⟨rfl, hq⟩
                          refine ⟨_, rfl, ?_⟩
                          replace hs := hs.callE hq
                          first | (refine WL.yes rfl rfl rfl ?_; refine WL.val rfl (run_move) ?_) | refine WL.no rfl rfl rfl (.inl rfl) ?_ | refine WL.no rfl rfl rfl (.inr rfl) ?_
                          refine WL.yes rfl rfl rfl ?_
                          refine WL.enter rfl (run_call en23 rfl rfl) (cap_abs hR2 ok2 (Own.live (A := []) hs)) ?_
                          rintro e w ⟨rfl, hq⟩
                          refine ⟨_, rfl, ?_⟩
                          replace hs := hs.callE hq
                          refine WL.yes rfl rfl rfl ?_
                          refine WL.val rfl (run_bF (run_gtr rfl rfl) (by omega)) ?_
                          first | refine WL.val rfl (run_pickT rfl) ?_ | refine WL.val rfl (run_pickF rfl) ?_
                          refine WL.nil ?_
                          repeat (first | refine CW.seq ?_ | refine CW.block ?_ | refine CW.skip ?_ | refine CW.label ?_ | refine CW.exit ?_)
                          first | refine CW.condP rfl (fun h8 => ?_) (fun h8 => ?_) | refine CW.cond rfl (fun h8 => ?_) (fun h8 => ?_)
                          · cases h8
                          repeat (first | refine CW.seq ?_ | refine CW.block ?_ | refine CW.skip ?_ | refine CW.label ?_ | refine CW.exit ?_ | refine CW.condT rfl ?_ | refine CW.condF rfl ?_)
                          refine CW.reg ?_
                          refine WL.val rfl (run_move) ?_
                          refine WL.val rfl (run_add (c := ((i + 1 : Nat) : Int)) rfl rfl (by omega) (by omega)) ?_
                          refine WL.val rfl (run_assign) ?_
                          refine WL.nil ?_
                          repeat (first | refine CW.seq ?_ | refine CW.block ?_ | refine CW.skip ?_ | refine CW.label ?_ | refine CW.exit ?_)
                          refine (show _ ∧ _ from ⟨rfl, _, ?_, i + 1, s2, L2, Dn, by omega, by omega, rfl, hR2, ok2, few2.mono (by omega), hk3, hcp2, hs, rfl, rfl, rfl, trivial⟩)
                          omega
                        · replace hsm : usedX s2.X + (rw0.length + 32) = usedX s.X + z.length + 32 := by simpa using hsm
                          repeat (first | refine CW.seq ?_ | refine CW.block ?_ | refine CW.skip ?_ | refine CW.label ?_ | refine CW.exit ?_ | refine CW.condT rfl ?_ | refine CW.condF rfl ?_)
                          refine CW.quiet mixedP (by kernel_rfl) hs ?_
                          refine QL.val rfl (fun w hs => run_move) ?_
                          refine QL.val rfl (fun w hs => run_bT (run_eql rfl rfl) (by omega)) ?_
                          refine QL.val rfl (fun w hs => run_move) ?_
                          first | (refine QL.yes rfl rfl rfl ?_; refine QL.val rfl (fun w hs => run_move) ?_) | refine QL.no rfl rfl rfl (.inl rfl) ?_ | refine QL.no rfl rfl rfl (.inr rfl) ?_
                          first | refine QL.val rfl (fun w hs => run_pickT rfl) ?_ | refine QL.val rfl (fun w hs => run_pickF rfl) ?_
                          refine QL.val rfl (fun w hs => run_move) ?_
                          first | (refine QL.yes rfl rfl rfl ?_; refine QL.val rfl (fun w hs => run_move) ?_) | refine QL.no rfl rfl rfl (.inl rfl) ?_ | refine QL.no rfl rfl rfl (.inr rfl) ?_
                          refine QL.yes rfl rfl rfl ?_
                          refine QL.enter rfl (fun w => run_call en22 rfl rfl) (fun w hs => used_abs hR2 ok2 (Own.live (A := [_, _]) hs)) ?_
                          first | (refine QL.yes rfl rfl rfl ?_; refine QL.val rfl (fun w hs => run_move) ?_) | refine QL.no rfl rfl rfl (.inl rfl) ?_ | refine QL.no rfl rfl rfl (.inr rfl) ?_
                          first | (refine QL.yes rfl rfl rfl ?_; refine QL.val rfl (fun w hs => run_move) ?_) | refine QL.no rfl rfl rfl (.inl rfl) ?_ | refine QL.no rfl rfl rfl (.inr rfl) ?_
                          first | (refine QL.yes rfl rfl rfl ?_; refine QL.val rfl (fun w hs => run_lenSl Try.underlying22 rfl) ?_) | refine QL.no rfl rfl rfl (.inl rfl) ?_ | refine QL.no rfl rfl rfl (.inr rfl) ?_
                          refine QL.yes rfl rfl rfl ?_
                          refine QL.val rfl (fun w hs => run_sub (c := ((usedX s.X - rw0.length : Nat) : Int)) rfl rfl (by omega) (by omega)) ?_
                          first | (refine QL.yes rfl rfl rfl ?_; refine QL.val rfl (fun w hs => run_field (o' := 2) Try.underlying48 rfl ty22 rfl rfl rfl) ?_) | refine QL.no rfl rfl rfl (.inl rfl) ?_ | refine QL.no rfl rfl rfl (.inr rfl) ?_
                          refine QL.yes rfl rfl rfl ?_
                          refine QL.val rfl (fun w hs => run_load1 ty22 rfl (hs.c1 h2)) ?_
                          first | (refine QL.yes rfl rfl rfl ?_; refine QL.val rfl (fun w hs => run_lenSl Try.underlying22 rfl) ?_) | refine QL.no rfl rfl rfl (.inl rfl) ?_ | refine QL.no rfl rfl rfl (.inr rfl) ?_
                          refine QL.yes rfl rfl rfl ?_
                          refine QL.val rfl (fun w hs => run_add (c := ((usedX s.X - rw0.length + z.length : Nat) : Int)) rfl rfl (by omega) (by omega)) ?_
                          refine QL.yes rfl rfl rfl ?_
                          refine QL.val rfl (fun w hs => run_bF (run_neq rfl rfl) (by omega)) ?_
                          first | refine QL.val rfl (fun w hs => run_pickT rfl) ?_ | refine QL.val rfl (fun w hs => run_pickF rfl) ?_
                          refine QL.val rfl (fun w hs => run_move) ?_
                          first | (refine QL.yes rfl rfl rfl ?_; refine QL.val rfl (fun w hs => run_move) ?_) | refine QL.no rfl rfl rfl (.inl rfl) ?_ | refine QL.no rfl rfl rfl (.inr rfl) ?_
                          refine QL.yes rfl rfl rfl ?_
                          refine QL.val rfl (fun w hs => run_bT (run_eql rfl rfl) (by omega)) ?_
                          first | (refine QL.yes rfl rfl rfl ?_; refine QL.val rfl (fun w hs => run_move) ?_) | refine QL.no rfl rfl rfl (.inl rfl) ?_ | refine QL.no rfl rfl rfl (.inr rfl) ?_
                          first | (refine QL.yes rfl rfl rfl ?_; refine QL.val rfl (fun w hs => run_move) ?_) | refine QL.no rfl rfl rfl (.inl rfl) ?_ | refine QL.no rfl rfl rfl (.inr rfl) ?_
                          first | (refine QL.yes rfl rfl rfl ?_; (first | refine QL.val rfl (fun w hs => run_notB rfl) ?_ | refine QL.val rfl (fun w hs => run_not rfl) ?_)) | refine QL.no rfl rfl rfl (.inl rfl) ?_ | refine QL.no rfl rfl rfl (.inr rfl) ?_
                          first | (refine QL.yes rfl rfl rfl ?_; (first | refine QL.val rfl (fun w hs => run_pickT rfl) ?_ | refine QL.val rfl (fun w hs => run_pickF rfl) ?_)) | refine QL.no rfl rfl rfl (.inl rfl) ?_ | refine QL.no rfl rfl rfl (.inr rfl) ?_
                          first | (refine QL.yes rfl rfl rfl ?_; refine QL.val rfl (fun w hs => run_move) ?_) | refine QL.no rfl rfl rfl (.inl rfl) ?_ | refine QL.no rfl rfl rfl (.inr rfl) ?_
                          first | (refine QL.yes rfl rfl rfl ?_; refine QL.val rfl (fun w hs => run_move) ?_) | refine QL.no rfl rfl rfl (.inl rfl) ?_ | refine QL.no rfl rfl rfl (.inr rfl) ?_
                          first | refine QL.no rfl rfl rfl (.inl rfl) ?_ | refine QL.no rfl rfl rfl (.inr rfl) ?_
                          first | (refine QL.yes rfl rfl rfl ?_; refine QL.val rfl (fun w hs => run_move) ?_) | refine QL.no rfl rfl rfl (.inl rfl) ?_ | refine QL.no rfl rfl rfl (.inr rfl) ?_
                          first | (refine QL.yes rfl rfl rfl ?_; refine QL.val rfl (fun w hs => run_field (o' := 2) Try.underlying48 rfl ty22 rfl rfl rfl) ?_) | refine QL.no rfl rfl rfl (.inl rfl) ?_ | refine QL.no rfl rfl rfl (.inr rfl) ?_
                          first | (refine QL.yes rfl rfl rfl ?_; (first | refine QL.val rfl (fun w hs => run_load1 ty22 rfl (hs.c0 rfl)) ?_ | refine QL.val rfl (fun w hs => run_load1 ty22 rfl (hs.c1 rfl)) ?_ | refine QL.val rfl (fun w hs => run_load1 ty22 rfl (hs.c2 rfl)) ?_ | refine QL.val rfl (fun w hs => run_load1 ty22 rfl (hs.c3 rfl)) ?_ | refine QL.val rfl (fun w hs => run_load1 ty22 rfl (hs.c4 rfl)) ?_ | refine QL.val rfl (fun w hs => run_load1 ty22 rfl (hs.c5 rfl)) ?_ | refine QL.val rfl (fun w hs => run_load1 ty22 rfl (hs.c0 rfl)) ?_)) | refine QL.no rfl rfl rfl (.inl rfl) ?_ | refine QL.no rfl rfl rfl (.inr rfl) ?_
                          first | (refine QL.yes rfl rfl rfl ?_; refine QL.val rfl (fun w hs => run_lenSl Try.underlying22 rfl) ?_) | refine QL.no rfl rfl rfl (.inl rfl) ?_ | refine QL.no rfl rfl rfl (.inr rfl) ?_
                          first | (refine QL.yes rfl rfl rfl ?_; refine QL.val rfl (fun w hs => run_add rfl rfl rfl (by omega)) ?_) | refine QL.no rfl rfl rfl (.inl rfl) ?_ | refine QL.no rfl rfl rfl (.inr rfl) ?_
                          first | (refine QL.yes rfl rfl rfl ?_; refine QL.val rfl (fun w hs => run_add rfl rfl rfl (by omega)) ?_) | refine QL.no rfl rfl rfl (.inl rfl) ?_ | refine QL.no rfl rfl rfl (.inr rfl) ?_
                          first | (refine QL.yes rfl rfl rfl ?_; refine QL.val rfl (fun w hs => run_neq rfl rfl) ?_) | refine QL.no rfl rfl rfl (.inl rfl) ?_ | refine QL.no rfl rfl rfl (.inr rfl) ?_
                          first | (refine QL.yes rfl rfl rfl ?_; (first | refine QL.val rfl (fun w hs => run_pickT rfl) ?_ | refine QL.val rfl (fun w hs => run_pickF rfl) ?_)) | refine QL.no rfl rfl rfl (.inl rfl) ?_ | refine QL.no rfl rfl rfl (.inr rfl) ?_
                          first | refine QL.val rfl (fun w hs => run_pickT rfl) ?_ | refine QL.val rfl (fun w hs => run_pickF rfl) ?_
                          refine QL.val rfl (fun w hs => run_move) ?_
                          first | (refine QL.yes rfl rfl rfl ?_; refine QL.val rfl (fun w hs => run_move) ?_) | refine QL.no rfl rfl rfl (.inl rfl) ?_ | refine QL.no rfl rfl rfl (.inr rfl) ?_
                          refine QL.yes rfl rfl rfl ?_
                          refine QL.val rfl (fun w hs => run_bF (run_neq rfl rfl) (by omega)) ?_
                          first | (refine QL.yes rfl rfl rfl ?_; refine QL.val rfl (fun w hs => run_move) ?_) | refine QL.no rfl rfl rfl (.inl rfl) ?_ | refine QL.no rfl rfl rfl (.inr rfl) ?_
                          first | (refine QL.yes rfl rfl rfl ?_; refine QL.val rfl (fun w hs => run_move) ?_) | refine QL.no rfl rfl rfl (.inl rfl) ?_ | refine QL.no rfl rfl rfl (.inr rfl) ?_
                          first | refine QL.no rfl rfl rfl (.inl rfl) ?_ | refine QL.no rfl rfl rfl (.inr rfl) ?_
                          first | (refine QL.yes rfl rfl rfl ?_; refine QL.val rfl (fun w hs => run_move) ?_) | refine QL.no rfl rfl rfl (.inl rfl) ?_ | refine QL.no rfl rfl rfl (.inr rfl) ?_
                          first | (refine QL.yes rfl rfl rfl ?_; refine QL.val rfl (fun w hs => run_neq rfl rfl) ?_) | refine QL.no rfl rfl rfl (.inl rfl) ?_ | refine QL.no rfl rfl rfl (.inr rfl) ?_
                          first | (refine QL.yes rfl rfl rfl ?_; (first | refine QL.val rfl (fun w hs => run_pickT rfl) ?_ | refine QL.val rfl (fun w hs => run_pickF rfl) ?_)) | refine QL.no rfl rfl rfl (.inl rfl) ?_ | refine QL.no rfl rfl rfl (.inr rfl) ?_
                          first | refine QL.val rfl (fun w hs => run_pickT rfl) ?_ | refine QL.val rfl (fun w hs => run_pickF rfl) ?_
                          refine QL.nil (fun w hs => ?_)
                          repeat (first | refine CW.seq ?_ | refine CW.block ?_ | refine CW.skip ?_ | refine CW.label ?_ | refine CW.exit ?_)
                          first | refine CW.condP rfl (fun hc2 => ?_) (fun hc2 => ?_) | refine CW.cond rfl (fun hc2 => ?_) (fun hc2 => ?_)
                          · cases hc2
                          replace hs := hs.tail.tail
                          repeat (first | refine CW.seq ?_ | refine CW.block ?_ | refine CW.skip ?_ | refine CW.label ?_ | refine CW.exit ?_ | refine CW.condT rfl ?_ | refine CW.condF rfl ?_)
                          refine CW.reg ?_
                          refine WL.val rfl (run_move) ?_
                          refine WL.enter rfl (run_call en27 rfl rfl) (reckoned_spec hR2 ok2 (Own.live (A := []) hs)) ?_
                          rintro e w ⟨rfl, hq⟩
                          refine ⟨_, rfl, ?_⟩
                          replace hs := hs.callE hq
                          first | refine WL.val rfl (run_notB rfl) ?_ | refine WL.val rfl (run_not rfl) ?_
                          refine WL.val rfl (run_move) ?_
                          first | (refine WL.yes rfl rfl rfl ?_; refine WL.val rfl (run_move) ?_) | refine WL.no rfl rfl rfl (.inl rfl) ?_ | refine WL.no rfl rfl rfl (.inr rfl) ?_
                          refine WL.yes rfl rfl rfl ?_
                          refine WL.enter rfl (run_call en22 rfl rfl) (used_abs hR2 ok2 (Own.live (A := []) hs)) ?_
                          rintro e w ⟨rfl, hq⟩
                          refine ⟨_, rfl, ?_⟩
                          replace hs := hs.callE hq
                          first | (refine WL.yes rfl rfl rfl ?_; refine WL.val rfl (run_move) ?_) | refine WL.no rfl rfl rfl (.inl rfl) ?_ | refine WL.no rfl rfl rfl (.inr rfl) ?_
                          refine WL.yes rfl rfl rfl ?_
                          refine WL.enter rfl (run_call en23 rfl rfl) (cap_abs hR2 ok2 (Own.live (A := []) hs)) ?_
                          rintro e w ⟨rfl, hq⟩
                          refine ⟨_, rfl, ?_⟩
                          replace hs := hs.callE hq
                          refine WL.yes rfl rfl rfl ?_
                          refine WL.val rfl (run_bF (run_gtr rfl rfl) (by omega)) ?_
                          first | refine WL.val rfl (run_pickT rfl) ?_ | refine WL.val rfl (run_pickF rfl) ?_
                          refine WL.nil ?_
                          repeat (first | refine CW.seq ?_ | refine CW.block ?_ | refine CW.skip ?_ | refine CW.label ?_ | refine CW.exit ?_)
                          first | refine CW.condP rfl (fun h8 => ?_) (fun h8 => ?_) | refine CW.cond rfl (fun h8 => ?_) (fun h8 => ?_)
                          · cases h8
                          repeat (first | refine CW.seq ?_ | refine CW.block ?_ | refine CW.skip ?_ | refine CW.label ?_ | refine CW.exit ?_ | refine CW.condT rfl ?_ | refine CW.condF rfl ?_)
                          refine CW.reg ?_
                          refine WL.val rfl (run_move) ?_
                          refine WL.val rfl (run_add (c := ((i + 1 : Nat) : Int)) rfl rfl (by omega) (by omega)) ?_
                          refine WL.val rfl (run_assign) ?_
                          refine WL.nil ?_
                          repeat (first | refine CW.seq ?_ | refine CW.block ?_ | refine CW.skip ?_ | refine CW.label ?_ | refine CW.exit ?_)
                          refine (show _ ∧ _ from ⟨rfl, _, ?_, i + 1, s2, L2, Dn, by omega, by omega, rfl, hR2, ok2, few2.mono (by omega), hk3, hcp2, hs, rfl, rfl, rfl, trivial⟩)
                          omega
                      · have hsm := hsame he
                        repeat (first | refine CW.seq ?_ | refine CW.block ?_ | refine CW.skip ?_ | refine CW.label ?_ | refine CW.exit ?_ | refine CW.condT rfl ?_ | refine CW.condF rfl ?_)
                        refine CW.quiet mixedP (by kernel_rfl) hs ?_
                        refine QL.val rfl (fun w hs => run_move) ?_
                        refine QL.val rfl (fun w hs => run_bF (run_eql rfl rfl) (by omega)) ?_
                        refine QL.val rfl (fun w hs => run_move) ?_
                        first | (refine QL.yes rfl rfl rfl ?_; refine QL.val rfl (fun w hs => run_move) ?_) | refine QL.no rfl rfl rfl (.inl rfl) ?_ | refine QL.no rfl rfl rfl (.inr rfl) ?_
                        first | refine QL.val rfl (fun w hs => run_pickT rfl) ?_ | refine QL.val rfl (fun w hs => run_pickF rfl) ?_
                        refine QL.val rfl (fun w hs => run_move) ?_
                        first | (refine QL.yes rfl rfl rfl ?_; refine QL.val rfl (fun w hs => run_move) ?_) | refine QL.no rfl rfl rfl (.inl rfl) ?_ | refine QL.no rfl rfl rfl (.inr rfl) ?_
                        first | refine QL.no rfl rfl rfl (.inl rfl) ?_ | refine QL.no rfl rfl rfl (.inr rfl) ?_
                        first | (refine QL.yes rfl rfl rfl ?_; refine QL.val rfl (fun w hs => run_move) ?_) | refine QL.no rfl rfl rfl (.inl rfl) ?_ | refine QL.no rfl rfl rfl (.inr rfl) ?_
                        first | (refine QL.yes rfl rfl rfl ?_; refine QL.val rfl (fun w hs => run_move) ?_) | refine QL.no rfl rfl rfl (.inl rfl) ?_ | refine QL.no rfl rfl rfl (.inr rfl) ?_
                        first | (refine QL.yes rfl rfl rfl ?_; refine QL.val rfl (fun w hs => run_lenSl Try.underlying22 rfl) ?_) | refine QL.no rfl rfl rfl (.inl rfl) ?_ | refine QL.no rfl rfl rfl (.inr rfl) ?_
                        first | (refine QL.yes rfl rfl rfl ?_; refine QL.val rfl (fun w hs => run_sub rfl rfl rfl (by omega)) ?_) | refine QL.no rfl rfl rfl (.inl rfl) ?_ | refine QL.no rfl rfl rfl (.inr rfl) ?_
                        first | (refine QL.yes rfl rfl rfl ?_; refine QL.val rfl (fun w hs => run_field (o' := 2) Try.underlying48 rfl ty22 rfl rfl rfl) ?_) | refine QL.no rfl rfl rfl (.inl rfl) ?_ | refine QL.no rfl rfl rfl (.inr rfl) ?_
                        first | (refine QL.yes rfl rfl rfl ?_; (first | refine QL.val rfl (fun w hs => run_load1 ty22 rfl (hs.c0 rfl)) ?_ | refine QL.val rfl (fun w hs => run_load1 ty22 rfl (hs.c1 rfl)) ?_ | refine QL.val rfl (fun w hs => run_load1 ty22 rfl (hs.c2 rfl)) ?_ | refine QL.val rfl (fun w hs => run_load1 ty22 rfl (hs.c3 rfl)) ?_ | refine QL.val rfl (fun w hs => run_load1 ty22 rfl (hs.c4 rfl)) ?_ | refine QL.val rfl (fun w hs => run_load1 ty22 rfl (hs.c5 rfl)) ?_ | refine QL.val rfl (fun w hs => run_load1 ty22 rfl (hs.c0 rfl)) ?_)) | refine QL.no rfl rfl rfl (.inl rfl) ?_ | refine QL.no rfl rfl rfl (.inr rfl) ?_
                        first | (refine QL.yes rfl rfl rfl ?_; refine QL.val rfl (fun w hs => run_lenSl Try.underlying22 rfl) ?_) | refine QL.no rfl rfl rfl (.inl rfl) ?_ | refine QL.no rfl rfl rfl (.inr rfl) ?_
                        first | (refine QL.yes rfl rfl rfl ?_; refine QL.val rfl (fun w hs => run_add rfl rfl rfl (by omega)) ?_) | refine QL.no rfl rfl rfl (.inl rfl) ?_ | refine QL.no rfl rfl rfl (.inr rfl) ?_
                        first | (refine QL.yes rfl rfl rfl ?_; refine QL.val rfl (fun w hs => run_neq rfl rfl) ?_) | refine QL.no rfl rfl rfl (.inl rfl) ?_ | refine QL.no rfl rfl rfl (.inr rfl) ?_
                        first | refine QL.val rfl (fun w hs => run_pickT rfl) ?_ | refine QL.val rfl (fun w hs => run_pickF rfl) ?_
                        refine QL.val rfl (fun w hs => run_move) ?_
                        first | (refine QL.yes rfl rfl rfl ?_; refine QL.val rfl (fun w hs => run_move) ?_) | refine QL.no rfl rfl rfl (.inl rfl) ?_ | refine QL.no rfl rfl rfl (.inr rfl) ?_
                        refine QL.yes rfl rfl rfl ?_
                        refine QL.val rfl (fun w hs => run_bF (run_eql rfl rfl) (by omega)) ?_
                        first | (refine QL.yes rfl rfl rfl ?_; refine QL.val rfl (fun w hs => run_move) ?_) | refine QL.no rfl rfl rfl (.inl rfl) ?_ | refine QL.no rfl rfl rfl (.inr rfl) ?_
                        first | (refine QL.yes rfl rfl rfl ?_; refine QL.val rfl (fun w hs => run_move) ?_) | refine QL.no rfl rfl rfl (.inl rfl) ?_ | refine QL.no rfl rfl rfl (.inr rfl) ?_
                        first | (refine QL.yes rfl rfl rfl ?_; (first | refine QL.val rfl (fun w hs => run_notB rfl) ?_ | refine QL.val rfl (fun w hs => run_not rfl) ?_)) | refine QL.no rfl rfl rfl (.inl rfl) ?_ | refine QL.no rfl rfl rfl (.inr rfl) ?_
                        first | (refine QL.yes rfl rfl rfl ?_; (first | refine QL.val rfl (fun w hs => run_pickT rfl) ?_ | refine QL.val rfl (fun w hs => run_pickF rfl) ?_)) | refine QL.no rfl rfl rfl (.inl rfl) ?_ | refine QL.no rfl rfl rfl (.inr rfl) ?_
                        first | (refine QL.yes rfl rfl rfl ?_; refine QL.val rfl (fun w hs => run_move) ?_) | refine QL.no rfl rfl rfl (.inl rfl) ?_ | refine QL.no rfl rfl rfl (.inr rfl) ?_
                        first | (refine QL.yes rfl rfl rfl ?_; refine QL.val rfl (fun w hs => run_move) ?_) | refine QL.no rfl rfl rfl (.inl rfl) ?_ | refine QL.no rfl rfl rfl (.inr rfl) ?_
                        first | refine QL.no rfl rfl rfl (.inl rfl) ?_ | refine QL.no rfl rfl rfl (.inr rfl) ?_
                        first | (refine QL.yes rfl rfl rfl ?_; refine QL.val rfl (fun w hs => run_move) ?_) | refine QL.no rfl rfl rfl (.inl rfl) ?_ | refine QL.no rfl rfl rfl (.inr rfl) ?_
                        first | (refine QL.yes rfl rfl rfl ?_; refine QL.val rfl (fun w hs => run_field (o' := 2) Try.underlying48 rfl ty22 rfl rfl rfl) ?_) | refine QL.no rfl rfl rfl (.inl rfl) ?_ | refine QL.no rfl rfl rfl (.inr rfl) ?_
                        first | (refine QL.yes rfl rfl rfl ?_; (first | refine QL.val rfl (fun w hs => run_load1 ty22 rfl (hs.c0 rfl)) ?_ | refine QL.val rfl (fun w hs => run_load1 ty22 rfl (hs.c1 rfl)) ?_ | refine QL.val rfl (fun w hs => run_load1 ty22 rfl (hs.c2 rfl)) ?_ | refine QL.val rfl (fun w hs => run_load1 ty22 rfl (hs.c3 rfl)) ?_ | refine QL.val rfl (fun w hs => run_load1 ty22 rfl (hs.c4 rfl)) ?_ | refine QL.val rfl (fun w hs => run_load1 ty22 rfl (hs.c5 rfl)) ?_ | refine QL.val rfl (fun w hs => run_load1 ty22 rfl (hs.c0 rfl)) ?_)) | refine QL.no rfl rfl rfl (.inl rfl) ?_ | refine QL.no rfl rfl rfl (.inr rfl) ?_
                        first | (refine QL.yes rfl rfl rfl ?_; refine QL.val rfl (fun w hs => run_lenSl Try.underlying22 rfl) ?_) | refine QL.no rfl rfl rfl (.inl rfl) ?_ | refine QL.no rfl rfl rfl (.inr rfl) ?_
                        first | (refine QL.yes rfl rfl rfl ?_; refine QL.val rfl (fun w hs => run_add rfl rfl rfl (by omega)) ?_) | refine QL.no rfl rfl rfl (.inl rfl) ?_ | refine QL.no rfl rfl rfl (.inr rfl) ?_
                        first | (refine QL.yes rfl rfl rfl ?_; refine QL.val rfl (fun w hs => run_add rfl rfl rfl (by omega)) ?_) | refine QL.no rfl rfl rfl (.inl rfl) ?_ | refine QL.no rfl rfl rfl (.inr rfl) ?_
                        first | (refine QL.yes rfl rfl rfl ?_; refine QL.val rfl (fun w hs => run_neq rfl rfl) ?_) | refine QL.no rfl rfl rfl (.inl rfl) ?_ | refine QL.no rfl rfl rfl (.inr rfl) ?_
                        first | (refine QL.yes rfl rfl rfl ?_; (first | refine QL.val rfl (fun w hs => run_pickT rfl) ?_ | refine QL.val rfl (fun w hs => run_pickF rfl) ?_)) | refine QL.no rfl rfl rfl (.inl rfl) ?_ | refine QL.no rfl rfl rfl (.inr rfl) ?_
                        first | refine QL.val rfl (fun w hs => run_pickT rfl) ?_ | refine QL.val rfl (fun w hs => run_pickF rfl) ?_
                        refine QL.val rfl (fun w hs => run_move) ?_
                        first | (refine QL.yes rfl rfl rfl ?_; refine QL.val rfl (fun w hs => run_move) ?_) | refine QL.no rfl rfl rfl (.inl rfl) ?_ | refine QL.no rfl rfl rfl (.inr rfl) ?_
                        refine QL.yes rfl rfl rfl ?_
                        refine QL.val rfl (fun w hs => run_bT (run_neq rfl rfl) (by omega)) ?_
                        first | (refine QL.yes rfl rfl rfl ?_; refine QL.val rfl (fun w hs => run_move) ?_) | refine QL.no rfl rfl rfl (.inl rfl) ?_ | refine QL.no rfl rfl rfl (.inr rfl) ?_
                        first | (refine QL.yes rfl rfl rfl ?_; refine QL.val rfl (fun w hs => run_move) ?_) | refine QL.no rfl rfl rfl (.inl rfl) ?_ | refine QL.no rfl rfl rfl (.inr rfl) ?_
                        refine QL.yes rfl rfl rfl ?_
                        refine QL.enter rfl (fun w => run_call en22 rfl rfl) (fun w hs => used_abs hR2 ok2 (Own.live (A := [_, _]) hs)) ?_
                        first | (refine QL.yes rfl rfl rfl ?_; refine QL.val rfl (fun w hs => run_move) ?_) | refine QL.no rfl rfl rfl (.inl rfl) ?_ | refine QL.no rfl rfl rfl (.inr rfl) ?_
                        refine QL.yes rfl rfl rfl ?_
                        refine QL.val rfl (fun w hs => run_bF (run_neq rfl rfl) (by omega)) ?_
                        first | (refine QL.yes rfl rfl rfl ?_; (first | refine QL.val rfl (fun w hs => run_pickT rfl) ?_ | refine QL.val rfl (fun w hs => run_pickF rfl) ?_)) | refine QL.no rfl rfl rfl (.inl rfl) ?_ | refine QL.no rfl rfl rfl (.inr rfl) ?_
                        first | refine QL.val rfl (fun w hs => run_pickT rfl) ?_ | refine QL.val rfl (fun w hs => run_pickF rfl) ?_
                        refine QL.nil (fun w hs => ?_)
                        repeat (first | refine CW.seq ?_ | refine CW.block ?_ | refine CW.skip ?_ | refine CW.label ?_ | refine CW.exit ?_)
                        first | refine CW.condP rfl (fun hc2 => ?_) (fun hc2 => ?_) | refine CW.cond rfl (fun hc2 => ?_) (fun hc2 => ?_)
                        · cases hc2
                        replace hs := hs.tail.tail
                        repeat (first | refine CW.seq ?_ | refine CW.block ?_ | refine CW.skip ?_ | refine CW.label ?_ | refine CW.exit ?_ | refine CW.condT rfl ?_ | refine CW.condF rfl ?_)
                        refine CW.reg ?_
                        refine WL.val rfl (run_move) ?_
                        refine WL.enter rfl (run_call en27 rfl rfl) (reckoned_spec hR2 ok2 (Own.live (A := []) hs)) ?_
                        rintro e w ⟨rfl, hq⟩
                        refine ⟨_, rfl, ?_⟩
                        replace hs := hs.callE hq
                        first | refine WL.val rfl (run_notB rfl) ?_ | refine WL.val rfl (run_not rfl) ?_
                        refine WL.val rfl (run_move) ?_
                        first | (refine WL.yes rfl rfl rfl ?_; refine WL.val rfl (run_move) ?_) | refine WL.no rfl rfl rfl (.inl rfl) ?_ | refine WL.no rfl rfl rfl (.inr rfl) ?_
                        refine WL.yes rfl rfl rfl ?_
                        refine WL.enter rfl (run_call en22 rfl rfl) (used_abs hR2 ok2 (Own.live (A := []) hs)) ?_
                        rintro e w ⟨rfl, hq⟩
                        refine ⟨_, rfl, ?_⟩
                        replace hs := hs.callE hq
                        first | (refine WL.yes rfl rfl rfl ?_; refine WL.val rfl (run_move) ?_) | refine WL.no rfl rfl rfl (.inl rfl) ?_ | refine WL.no rfl rfl rfl (.inr rfl) ?_
                        refine WL.yes rfl rfl rfl ?_
                        refine WL.enter rfl (run_call en23 rfl rfl) (cap_abs hR2 ok2 (Own.live (A := []) hs)) ?_
                        rintro e w ⟨rfl, hq⟩
                        refine ⟨_, rfl, ?_⟩
                        replace hs := hs.callE hq
                        refine WL.yes rfl rfl rfl ?_
                        refine WL.val rfl (run_bF (run_gtr rfl rfl) (by omega)) ?_
                        first | refine WL.val rfl (run_pickT rfl) ?_ | refine WL.val rfl (run_pickF rfl) ?_
                        refine WL.nil ?_
                        repeat (first | refine CW.seq ?_ | refine CW.block ?_ | refine CW.skip ?_ | refine CW.label ?_ | refine CW.exit ?_)
                        first | refine CW.condP rfl (fun h8 => ?_) (fun h8 => ?_) | refine CW.cond rfl (fun h8 => ?_) (fun h8 => ?_)
                        · cases h8
                        repeat (first | refine CW.seq ?_ | refine CW.block ?_ | refine CW.skip ?_ | refine CW.label ?_ | refine CW.exit ?_ | refine CW.condT rfl ?_ | refine CW.condF rfl ?_)
                        refine CW.reg ?_
                        refine WL.val rfl (run_move) ?_
                        refine WL.val rfl (run_add (c := ((i + 1 : Nat) : Int)) rfl rfl (by omega) (by omega)) ?_
                        refine WL.val rfl (run_assign) ?_
                        refine WL.nil ?_
                        repeat (first | refine CW.seq ?_ | refine CW.block ?_ | refine CW.skip ?_ | refine CW.label ?_ | refine CW.exit ?_)
                        refine (show _ ∧ _ from ⟨rfl, _, ?_, i + 1, s2, L2, Dn, by omega, by omega, rfl, hR2, ok2, few2.mono (by omega), hk3, hcp2, hs, rfl, rfl, rfl, trivial⟩)
                        omega
                    · cases hc1
                  · repeat (first | refine CW.seq ?_ | refine CW.block ?_ | refine CW.skip ?_ | refine CW.label ?_ | refine CW.exit ?_ | refine CW.condT rfl ?_ | refine CW.condF rfl ?_)
                    refine CW.reg ?_
                    refine WL.val rfl (run_bF (run_eql rfl rfl) (by exact k6)) ?_
                    refine WL.val rfl (run_assign) ?_
                    refine WL.nil ?_
                    repeat (first | refine CW.seq ?_ | refine CW.block ?_ | refine CW.skip ?_ | refine CW.label ?_ | refine CW.exit ?_)
                    first | refine CW.condP rfl (fun hc1 => ?_) (fun hc1 => ?_) | refine CW.cond rfl (fun hc1 => ?_) (fun hc1 => ?_)
                    · cases hc1
                    by_cases k5 : kind = 5
                    · repeat (first | refine CW.seq ?_ | refine CW.block ?_ | refine CW.skip ?_ | refine CW.label ?_ | refine CW.exit ?_ | refine CW.condT rfl ?_ | refine CW.condF rfl ?_)
                      refine CW.reg ?_
                      refine WL.val rfl (run_bT (run_eql rfl rfl) (by exact k5)) ?_
                      refine WL.val rfl (run_assign) ?_
                      refine WL.nil ?_
                      repeat (first | refine CW.seq ?_ | refine CW.block ?_ | refine CW.skip ?_ | refine CW.label ?_ | refine CW.exit ?_)
                      first | refine CW.condP rfl (fun hc1 => ?_) (fun hc1 => ?_) | refine CW.cond rfl (fun hc1 => ?_) (fun hc1 => ?_)
                      · have hev := fun {w1} (hl : Lives (L ++ D1) w1) => evict_abs (d := dd) (w0 := w1) hR ok hl hdd
                        have ok2 := ok.del dd
                        have few2 := (few.evict dd).mono (Nat.le_succ _)
                        have hk3 : (s.evict dd).k = k := hk
                        have hsum := evict_sum ok dd
                        have hcp2 : usedX (s.evict dd).X ≤ (s.evict dd).cap := by
                          have : (s.evict dd).cap = s.cap := rfl
                          omega
                        have hobt : ∃ s2, s.evict dd = s2 := ⟨_, rfl⟩
                        obtain ⟨s2, hs2⟩ := hobt
                        rw [hs2] at ok2 few2 hk3 hcp2 hsum
                        rw [hth, hrw0] at hsum
                        simp only [hs2, hth] at hev
                        have hobt : ∃ Dn, D1 = Dn := ⟨_, rfl⟩
                        obtain ⟨Dn, hDn⟩ := hobt
                        rw [hDn] at hs hev
                        cases th
                        · repeat (first | refine CW.seq ?_ | refine CW.block ?_ | refine CW.skip ?_ | refine CW.label ?_ | refine CW.exit ?_ | refine CW.condT rfl ?_ | refine CW.condF rfl ?_)
                          refine CW.reg ?_
                          refine WL.val rfl (run_move) ?_
                          refine WL.val rfl (run_loadN ty27 rfl hddl hs.a0) ?_
                          refine WL.enter rfl (run_call en26 rfl rfl) (hev (Own.live (A := [_, _]) hs)) ?_
                          rintro e w ⟨L2, rfl, hR2, hq⟩
                          refine ⟨_, rfl, ?_⟩
                          replace hs := Own.set (A := [_, _]) hs hq
                          refine WL.val rfl (run_move) ?_
                          refine WL.val rfl (run_neqB Try.underlying4 rfl rfl) ?_
                          refine WL.val rfl (run_move) ?_
                          first | (refine WL.yes rfl rfl rfl ?_; refine WL.val rfl (run_move) ?_) | refine WL.no rfl rfl rfl (.inl rfl) ?_ | refine WL.no rfl rfl rfl (.inr rfl) ?_
                          first | (refine WL.yes rfl rfl rfl ?_; refine WL.val rfl (run_move) ?_) | refine WL.no rfl rfl rfl (.inl rfl) ?_ | refine WL.no rfl rfl rfl (.inr rfl) ?_
                          first | (refine WL.yes rfl rfl rfl ?_; refine WL.val rfl (run_move) ?_) | refine WL.no rfl rfl rfl (.inl rfl) ?_ | refine WL.no rfl rfl rfl (.inr rfl) ?_
                          first | refine WL.no rfl rfl rfl (.inl rfl) ?_ | refine WL.no rfl rfl rfl (.inr rfl) ?_
                          first | (refine WL.yes rfl rfl rfl ?_; refine WL.val rfl (run_move) ?_) | refine WL.no rfl rfl rfl (.inl rfl) ?_ | refine WL.no rfl rfl rfl (.inr rfl) ?_
                          first | (refine WL.yes rfl rfl rfl ?_; refine WL.val rfl (run_move) ?_) | refine WL.no rfl rfl rfl (.inl rfl) ?_ | refine WL.no rfl rfl rfl (.inr rfl) ?_
                          first | (refine WL.yes rfl rfl rfl ?_; refine WL.val rfl (run_lenSl Try.underlying22 rfl) ?_) | refine WL.no rfl rfl rfl (.inl rfl) ?_ | refine WL.no rfl rfl rfl (.inr rfl) ?_
                          first | (refine WL.yes rfl rfl rfl ?_; refine WL.val rfl (run_sub rfl rfl rfl (by omega)) ?_) | refine WL.no rfl rfl rfl (.inl rfl) ?_ | refine WL.no rfl rfl rfl (.inr rfl) ?_
                          first | (refine WL.yes rfl rfl rfl ?_; refine WL.val rfl (run_sub rfl rfl rfl (by omega)) ?_) | refine WL.no rfl rfl rfl (.inl rfl) ?_ | refine WL.no rfl rfl rfl (.inr rfl) ?_
                          first | (refine WL.yes rfl rfl rfl ?_; refine WL.val rfl (run_neq rfl rfl) ?_) | refine WL.no rfl rfl rfl (.inl rfl) ?_ | refine WL.no rfl rfl rfl (.inr rfl) ?_
                          first | (refine WL.yes rfl rfl rfl ?_; (first | refine WL.val rfl (run_pickT rfl) ?_ | refine WL.val rfl (run_pickF rfl) ?_)) | refine WL.no rfl rfl rfl (.inl rfl) ?_ | refine WL.no rfl rfl rfl (.inr rfl) ?_
                          first | refine WL.val rfl (run_pickT rfl) ?_ | refine WL.val rfl (run_pickF rfl) ?_
                          refine WL.nil ?_
                          repeat (first | refine CW.seq ?_ | refine CW.block ?_ | refine CW.skip ?_ | refine CW.label ?_ | refine CW.exit ?_)
                          first | refine CW.condP rfl (fun hc2 => ?_) (fun hc2 => ?_) | refine CW.cond rfl (fun hc2 => ?_) (fun hc2 => ?_)
                          · cases hc2
                          replace hs := hs.tail.tail
                          repeat (first | refine CW.seq ?_ | refine CW.block ?_ | refine CW.skip ?_ | refine CW.label ?_ | refine CW.exit ?_ | refine CW.condT rfl ?_ | refine CW.condF rfl ?_)
                          refine CW.reg ?_
                          refine WL.val rfl (run_move) ?_
                          refine WL.enter rfl (run_call en27 rfl rfl) (reckoned_spec hR2 ok2 (Own.live (A := []) hs)) ?_
                          rintro e w ⟨rfl, hq⟩
                          refine ⟨_, rfl, ?_⟩
                          replace hs := hs.callE hq
                          first | refine WL.val rfl (run_notB rfl) ?_ | refine WL.val rfl (run_not rfl) ?_
                          refine WL.val rfl (run_move) ?_
                          first | (refine WL.yes rfl rfl rfl ?_; refine WL.val rfl (run_move) ?_) | refine WL.no rfl rfl rfl (.inl rfl) ?_ | refine WL.no rfl rfl rfl (.inr rfl) ?_
                          refine WL.yes rfl rfl rfl ?_
                          refine WL.enter rfl (run_call en22 rfl rfl) (used_abs hR2 ok2 (Own.live (A := []) hs)) ?_
                          rintro e w ⟨rfl, hq⟩
                          refine ⟨_, rfl, ?_⟩
                          replace hs := hs.callE hq
                          first | (refine WL.yes rfl rfl rfl ?_; refine WL.val rfl (run_move) ?_) | refine WL.no rfl rfl rfl (.inl rfl) ?_ | refine WL.no rfl rfl rfl (.inr rfl) ?_
                          refine WL.yes rfl rfl rfl ?_
                          refine WL.enter rfl (run_call en23 rfl rfl) (cap_abs hR2 ok2 (Own.live (A := []) hs)) ?_
                          rintro e w ⟨rfl, hq⟩
                          refine ⟨_, rfl, ?_⟩
                          replace hs := hs.callE hq
                          refine WL.yes rfl rfl rfl ?_
                          refine WL.val rfl (run_bF (run_gtr rfl rfl) (by omega)) ?_
                          first | refine WL.val rfl (run_pickT rfl) ?_ | refine WL.val rfl (run_pickF rfl) ?_
                          refine WL.nil ?_
                          repeat (first | refine CW.seq ?_ | refine CW.block ?_ | refine CW.skip ?_ | refine CW.label ?_ | refine CW.exit ?_)
                          first | refine CW.condP rfl (fun h8 => ?_) (fun h8 => ?_) | refine CW.cond rfl (fun h8 => ?_) (fun h8 => ?_)
                          · cases h8
                          repeat (first | refine CW.seq ?_ | refine CW.block ?_ | refine CW.skip ?_ | refine CW.label ?_ | refine CW.exit ?_ | refine CW.condT rfl ?_ | refine CW.condF rfl ?_)
                          refine CW.reg ?_
                          refine WL.val rfl (run_move) ?_
                          refine WL.val rfl (run_add (c := ((i + 1 : Nat) : Int)) rfl rfl (by omega) (by omega)) ?_
                          refine WL.val rfl (run_assign) ?_
                          refine WL.nil ?_
                          repeat (first | refine CW.seq ?_ | refine CW.block ?_ | refine CW.skip ?_ | refine CW.label ?_ | refine CW.exit ?_)
                          refine (show _ ∧ _ from ⟨rfl, _, ?_, i + 1, s2, L2, Dn, by omega, by omega, rfl, hR2, ok2, few2.mono (by omega), hk3, hcp2, hs, rfl, rfl, rfl, trivial⟩)
                          omega
                        · replace hsum : usedX s2.X + (rw0.length + 32) = usedX s.X := by simpa using hsum
                          repeat (first | refine CW.seq ?_ | refine CW.block ?_ | refine CW.skip ?_ | refine CW.label ?_ | refine CW.exit ?_ | refine CW.condT rfl ?_ | refine CW.condF rfl ?_)
                          refine CW.reg ?_
                          refine WL.val rfl (run_move) ?_
                          refine WL.val rfl (run_loadN ty27 rfl hddl hs.a0) ?_
                          refine WL.enter rfl (run_call en26 rfl rfl) (hev (Own.live (A := [_, _]) hs)) ?_
                          rintro e w ⟨L2, rfl, hR2, hq⟩
                          refine ⟨_, rfl, ?_⟩
                          replace hs := Own.set (A := [_, _]) hs hq
                          refine WL.val rfl (run_move) ?_
                          refine WL.val rfl (run_neqB Try.underlying4 rfl rfl) ?_
                          refine WL.val rfl (run_move) ?_
                          first | (refine WL.yes rfl rfl rfl ?_; refine WL.val rfl (run_move) ?_) | refine WL.no rfl rfl rfl (.inl rfl) ?_ | refine WL.no rfl rfl rfl (.inr rfl) ?_
                          first | (refine WL.yes rfl rfl rfl ?_; refine WL.val rfl (run_move) ?_) | refine WL.no rfl rfl rfl (.inl rfl) ?_ | refine WL.no rfl rfl rfl (.inr rfl) ?_
                          first | (refine WL.yes rfl rfl rfl ?_; refine WL.val rfl (run_move) ?_) | refine WL.no rfl rfl rfl (.inl rfl) ?_ | refine WL.no rfl rfl rfl (.inr rfl) ?_
                          refine WL.yes rfl rfl rfl ?_
                          refine WL.enter rfl (run_call en22 rfl rfl) (used_abs hR2 ok2 (Own.live (A := [_, _]) hs)) ?_
                          rintro e w ⟨rfl, hq⟩
                          refine ⟨_, rfl, ?_⟩
                          replace hs := hs.callE hq
                          first | (refine WL.yes rfl rfl rfl ?_; refine WL.val rfl (run_move) ?_) | refine WL.no rfl rfl rfl (.inl rfl) ?_ | refine WL.no rfl rfl rfl (.inr rfl) ?_
                          first | (refine WL.yes rfl rfl rfl ?_; refine WL.val rfl (run_move) ?_) | refine WL.no rfl rfl rfl (.inl rfl) ?_ | refine WL.no rfl rfl rfl (.inr rfl) ?_
                          first | (refine WL.yes rfl rfl rfl ?_; refine WL.val rfl (run_lenSl Try.underlying22 rfl) ?_) | refine WL.no rfl rfl rfl (.inl rfl) ?_ | refine WL.no rfl rfl rfl (.inr rfl) ?_
                          refine WL.yes rfl rfl rfl ?_
                          refine WL.val rfl (run_sub (c := ((usedX s.X - rw0.length : Nat) : Int)) rfl rfl (by omega) (by omega)) ?_
                          refine WL.yes rfl rfl rfl ?_
                          refine WL.val rfl (run_sub (c := ((usedX s.X - rw0.length - 32 : Nat) : Int)) rfl rfl (by omega) (by omega)) ?_
                          refine WL.yes rfl rfl rfl ?_
                          refine WL.val rfl (run_bF (run_neq rfl rfl) (by omega)) ?_
                          first | (refine WL.yes rfl rfl rfl ?_; (first | refine WL.val rfl (run_pickT rfl) ?_ | refine WL.val rfl (run_pickF rfl) ?_)) | refine WL.no rfl rfl rfl (.inl rfl) ?_ | refine WL.no rfl rfl rfl (.inr rfl) ?_
                          first | refine WL.val rfl (run_pickT rfl) ?_ | refine WL.val rfl (run_pickF rfl) ?_
                          refine WL.nil ?_
                          repeat (first | refine CW.seq ?_ | refine CW.block ?_ | refine CW.skip ?_ | refine CW.label ?_ | refine CW.exit ?_)
                          first | refine CW.condP rfl (fun hc2 => ?_) (fun hc2 => ?_) | refine CW.cond rfl (fun hc2 => ?_) (fun hc2 => ?_)
                          · cases hc2
                          replace hs := hs.tail.tail
                          repeat (first | refine CW.seq ?_ | refine CW.block ?_ | refine CW.skip ?_ | refine CW.label ?_ | refine CW.exit ?_ | refine CW.condT rfl ?_ | refine CW.condF rfl ?_)
                          refine CW.reg ?_
                          refine WL.val rfl (run_move) ?_
                          refine WL.enter rfl (run_call en27 rfl rfl) (reckoned_spec hR2 ok2 (Own.live (A := []) hs)) ?_
                          rintro e w ⟨rfl, hq⟩
                          refine ⟨_, rfl, ?_⟩
                          replace hs := hs.callE hq
                          first | refine WL.val rfl (run_notB rfl) ?_ | refine WL.val rfl (run_not rfl) ?_
                          refine WL.val rfl (run_move) ?_
                          first | (refine WL.yes rfl rfl rfl ?_; refine WL.val rfl (run_move) ?_) | refine WL.no rfl rfl rfl (.inl rfl) ?_ | refine WL.no rfl rfl rfl (.inr rfl) ?_
                          refine WL.yes rfl rfl rfl ?_
                          refine WL.enter rfl (run_call en22 rfl rfl) (used_abs hR2 ok2 (Own.live (A := []) hs)) ?_
                          rintro e w ⟨rfl, hq⟩
                          refine ⟨_, rfl, ?_⟩
                          replace hs := hs.callE hq
                          first | (refine WL.yes rfl rfl rfl ?_; refine WL.val rfl (run_move) ?_) | refine WL.no rfl rfl rfl (.inl rfl) ?_ | refine WL.no rfl rfl rfl (.inr rfl) ?_
                          refine WL.yes rfl rfl rfl ?_
                          refine WL.enter rfl (run_call en23 rfl rfl) (cap_abs hR2 ok2 (Own.live (A := []) hs)) ?_
                          rintro e w ⟨rfl, hq⟩
                          refine ⟨_, rfl, ?_⟩
                          replace hs := hs.callE hq
                          refine WL.yes rfl rfl rfl ?_
                          refine WL.val rfl (run_bF (run_gtr rfl rfl) (by omega)) ?_
                          first | refine WL.val rfl (run_pickT rfl) ?_ | refine WL.val rfl (run_pickF rfl) ?_
                          refine WL.nil ?_
                          repeat (first | refine CW.seq ?_ | refine CW.block ?_ | refine CW.skip ?_ | refine CW.label ?_ | refine CW.exit ?_)
                          first | refine CW.condP rfl (fun h8 => ?_) (fun h8 => ?_) | refine CW.cond rfl (fun h8 => ?_) (fun h8 => ?_)
                          · cases h8
                          repeat (first | refine CW.seq ?_ | refine CW.block ?_ | refine CW.skip ?_ | refine CW.label ?_ | refine CW.exit ?_ | refine CW.condT rfl ?_ | refine CW.condF rfl ?_)
                          refine CW.reg ?_
                          refine WL.val rfl (run_move) ?_
                          refine WL.val rfl (run_add (c := ((i + 1 : Nat) : Int)) rfl rfl (by omega) (by omega)) ?_
                          refine WL.val rfl (run_assign) ?_
                          refine WL.nil ?_
                          repeat (first | refine CW.seq ?_ | refine CW.block ?_ | refine CW.skip ?_ | refine CW.label ?_ | refine CW.exit ?_)
                          refine (show _ ∧ _ from ⟨rfl, _, ?_, i + 1, s2, L2, Dn, by omega, by omega, rfl, hR2, ok2, few2.mono (by omega), hk3, hcp2, hs, rfl, rfl, rfl, trivial⟩)
                          omega
                      · cases hc1
                    · repeat (first | refine CW.seq ?_ | refine CW.block ?_ | refine CW.skip ?_ | refine CW.label ?_ | refine CW.exit ?_ | refine CW.condT rfl ?_ | refine CW.condF rfl ?_)
                      refine CW.reg ?_
                      refine WL.val rfl (run_bF (run_eql rfl rfl) (by exact k5)) ?_
                      refine WL.val rfl (run_assign) ?_
                      refine WL.nil ?_
                      repeat (first | refine CW.seq ?_ | refine CW.block ?_ | refine CW.skip ?_ | refine CW.label ?_ | refine CW.exit ?_)
                      first | refine CW.condP rfl (fun hc1 => ?_) (fun hc1 => ?_) | refine CW.cond rfl (fun hc1 => ?_) (fun hc1 => ?_)
                      · cases hc1
                      have hobt : ∃ L2 Dn s2, PRep bs s2 Dn L2 ∧ s2.Ok ∧ s2.Few (2 * i + 1) ∧ s2.k = k ∧ usedX s2.X ≤ s2.cap ∧ Step [] ([] ++ (L2 ++ Dn)) w0 w := ⟨L, D1, s, hR, ok, few.mono (Nat.le_succ _), hk, huc, hs.tail.tail⟩
                      obtain ⟨L2, Dn, s2, hR2, ok2, few2, hk3, hcp2, hs⟩ := hobt
                      repeat (first | refine CW.seq ?_ | refine CW.block ?_ | refine CW.skip ?_ | refine CW.label ?_ | refine CW.exit ?_ | refine CW.condT rfl ?_ | refine CW.condF rfl ?_)
                      refine CW.reg ?_
                      refine WL.val rfl (run_move) ?_
                      refine WL.enter rfl (run_call en27 rfl rfl) (reckoned_spec hR2 ok2 (Own.live (A := []) hs)) ?_
                      rintro e w ⟨rfl, hq⟩
                      refine ⟨_, rfl, ?_⟩
                      replace hs := hs.callE hq
                      first | refine WL.val rfl (run_notB rfl) ?_ | refine WL.val rfl (run_not rfl) ?_
                      refine WL.val rfl (run_move) ?_
                      first | (refine WL.yes rfl rfl rfl ?_; refine WL.val rfl (run_move) ?_) | refine WL.no rfl rfl rfl (.inl rfl) ?_ | refine WL.no rfl rfl rfl (.inr rfl) ?_
                      refine WL.yes rfl rfl rfl ?_
                      refine WL.enter rfl (run_call en22 rfl rfl) (used_abs hR2 ok2 (Own.live (A := []) hs)) ?_
                      rintro e w ⟨rfl, hq⟩
                      refine ⟨_, rfl, ?_⟩
                      replace hs := hs.callE hq
                      first | (refine WL.yes rfl rfl rfl ?_; refine WL.val rfl (run_move) ?_) | refine WL.no rfl rfl rfl (.inl rfl) ?_ | refine WL.no rfl rfl rfl (.inr rfl) ?_
                      refine WL.yes rfl rfl rfl ?_
                      refine WL.enter rfl (run_call en23 rfl rfl) (cap_abs hR2 ok2 (Own.live (A := []) hs)) ?_
                      rintro e w ⟨rfl, hq⟩
                      refine ⟨_, rfl, ?_⟩
                      replace hs := hs.callE hq
                      refine WL.yes rfl rfl rfl ?_
                      refine WL.val rfl (run_bF (run_gtr rfl rfl) (by omega)) ?_
                      first | refine WL.val rfl (run_pickT rfl) ?_ | refine WL.val rfl (run_pickF rfl) ?_
                      refine WL.nil ?_
                      repeat (first | refine CW.seq ?_ | refine CW.block ?_ | refine CW.skip ?_ | refine CW.label ?_ | refine CW.exit ?_)
                      first | refine CW.condP rfl (fun h8 => ?_) (fun h8 => ?_) | refine CW.cond rfl (fun h8 => ?_) (fun h8 => ?_)
                      · cases h8
                      repeat (first | refine CW.seq ?_ | refine CW.block ?_ | refine CW.skip ?_ | refine CW.label ?_ | refine CW.exit ?_ | refine CW.condT rfl ?_ | refine CW.condF rfl ?_)
                      refine CW.reg ?_
                      refine WL.val rfl (run_move) ?_
                      refine WL.val rfl (run_add (c := ((i + 1 : Nat) : Int)) rfl rfl (by omega) (by omega)) ?_
                      refine WL.val rfl (run_assign) ?_
                      refine WL.nil ?_
                      repeat (first | refine CW.seq ?_ | refine CW.block ?_ | refine CW.skip ?_ | refine CW.label ?_ | refine CW.exit ?_)
                      refine (show _ ∧ _ from ⟨rfl, _, ?_, i + 1, s2, L2, Dn, by omega, by omega, rfl, hR2, ok2, few2.mono (by omega), hk3, hcp2, hs, rfl, rfl, rfl, trivial⟩)
                      omega
              · repeat (first | refine CW.seq ?_ | refine CW.block ?_ | refine CW.skip ?_ | refine CW.label ?_ | refine CW.exit ?_)
                first | refine CW.condP rfl (fun h4 => ?_) (fun h4 => ?_) | refine CW.cond rfl (fun h4 => ?_) (fun h4 => ?_)
                · repeat (first | refine CW.seq ?_ | refine CW.block ?_ | refine CW.skip ?_ | refine CW.label ?_ | refine CW.exit ?_ | refine CW.condT rfl ?_ | refine CW.condF rfl ?_)
                  refine CW.quietT (l1 := [_, _, _, _, _]) (l2 := [_]) 5 rfl mixedP rfl (by kernel_rfl) hs ?_
                  refine QL.val rfl (fun w hs => run_move) ?_
                  refine QL.enter rfl (fun w => run_call en14 rfl rfl) (fun w hs => hwid (Own.live (A := [_, _]) hs)) ?_
                  refine QL.val rfl (fun w hs => run_field (o' := 1) Try.underlying48 rfl ty22 rfl rfl rfl) ?_
                  refine QL.val rfl (fun w hs => run_load1 ty22 rfl (hs.c1 h1)) ?_
                  refine QL.enter rfl (fun w => run_call en13 rfl rfl) (fun w hs => hof (hy1.step0 hs.clear)) ?_
                  refine QL.nil (fun w hs => ?_)
                  first | refine WL.storeAll ty27 rfl rfl ((hfl)) (Cells1.u8s _) hs (by first | rfl | assumption) (fun w hs => ?_) | refine WL.storeAll_1 ty27 rfl rfl ((hfl)) (Cells1.u8s _) hs (by first | rfl | assumption) (fun w hs => ?_) | refine WL.storeAll_2 ty27 rfl rfl ((hfl)) (Cells1.u8s _) hs (by first | rfl | assumption) (fun w hs => ?_) | refine WL.storeAll_3 ty27 rfl rfl ((hfl)) (Cells1.u8s _) hs (by first | rfl | assumption) (fun w hs => ?_) | refine WL.storeAll_4 ty27 rfl rfl ((hfl)) (Cells1.u8s _) hs (by first | rfl | assumption) (fun w hs => ?_) | refine WL.storeAll ty27 rfl rfl ((hfl)) (Cells1.u8s _) hs (by first | rfl | assumption) (fun w hs => ?_)
                  refine WL.nil ?_
                  have hobt : ∃ dd : List UInt8, dd.length = 32 ∧ (u8s dd).length = 32 ∧ Step [] ((b10, blk 27 (u8s dd)) :: (b9, blk 48 sc) :: ([] ++ (L ++ D))) w0 w := ⟨_, hf32, hfl, hs⟩
                  obtain ⟨dd, hdd, hddl, hs⟩ := hobt
                  have hobt : ∃ th, s.has dd = th := ⟨_, rfl⟩
                  obtain ⟨th, hth⟩ := hobt
                  have hobt : ∃ x, s.raw dd = x := ⟨_, rfl⟩
                  obtain ⟨rw0, hrw0⟩ := hobt
                  have hraw := fun {w1} (hl : Lives (L ++ D) w1) => raw_abs (d := dd) hR ok hl hdd
                  rw [hth, hrw0] at hraw
                  have hrl : rw0.length ≤ usedX s.X := by
                    rw [← hrw0]
                    unfold AS.raw
                    cases hf : findX dd s.X with
                    | none => simp
                    | some c => have := used_mem (findX_some hf).1; simp only; omega
                  repeat (first | refine CW.seq ?_ | refine CW.block ?_ | refine CW.skip ?_ | refine CW.label ?_ | refine CW.exit ?_ | refine CW.condT rfl ?_ | refine CW.condF rfl ?_)
                  refine CW.reg ?_
                  refine WL.val rfl (run_move) ?_
                  refine WL.enter rfl (run_call en22 rfl rfl) (used_abs hR ok (Own.live (A := [_, _]) hs)) ?_
                  rintro e w ⟨rfl, hq⟩
                  refine ⟨_, rfl, ?_⟩
                  replace hs := hs.callE hq
                  refine WL.val rfl (run_assign) ?_
                  refine WL.nil ?_
                  repeat (first | refine CW.seq ?_ | refine CW.block ?_ | refine CW.skip ?_ | refine CW.label ?_ | refine CW.exit ?_ | refine CW.condT rfl ?_ | refine CW.condF rfl ?_)
                  refine CW.reg ?_
                  refine WL.val rfl (run_move) ?_
                  refine WL.val rfl (run_loadN ty27 rfl hddl hs.a0) ?_
                  refine WL.enter rfl (run_call en17 rfl rfl) (hraw (Own.live (A := [_, _]) hs)) ?_
                  rintro e w ⟨v', Lv', rfl, hu', hq⟩
                  refine ⟨_, rfl, ?_⟩
                  replace hs := Own.keep (A := [_, _]) hs hq
                  refine WL.val rfl (run_move) ?_
                  refine WL.val rfl (run_extract rfl rfl) ?_
                  refine WL.val rfl (run_extract rfl rfl) ?_
                  refine WL.val rfl (run_assign) ?_
                  refine WL.val rfl (run_assign) ?_
                  refine WL.nil ?_
                  have hobt := hu'.form
                  obtain ⟨va, vc, rfl⟩ := hobt
                  replace hR := hR.mono (D' := Lv' ++ D) fun p hp => List.mem_append_right _ hp
                  have hobt : ∃ D1, Lv' ++ D = D1 := ⟨_, rfl⟩
                  obtain ⟨D1, hD1⟩ := hobt
                  rw [hD1] at hR hs
                  repeat (first | refine CW.seq ?_ | refine CW.block ?_ | refine CW.skip ?_ | refine CW.label ?_ | refine CW.exit ?_ | refine CW.condT rfl ?_ | refine CW.condF rfl ?_)
                  refine CW.reg ?_
                  refine WL.val rfl (run_field (o' := 0) Try.underlying48 rfl ty3 rfl rfl rfl) ?_
                  refine WL.val rfl (run_load1 ty3 rfl (hs.c1 h0)) ?_
                  refine WL.nil ?_
                  by_cases k1 : kind = 1
                  · repeat (first | refine CW.seq ?_ | refine CW.block ?_ | refine CW.skip ?_ | refine CW.label ?_ | refine CW.exit ?_ | refine CW.condT rfl ?_ | refine CW.condF rfl ?_)
                    refine CW.reg ?_
                    refine WL.val rfl (run_bT (run_eql rfl rfl) (by exact k1)) ?_
                    refine WL.val rfl (run_assign) ?_
                    refine WL.nil ?_
                    repeat (first | refine CW.seq ?_ | refine CW.block ?_ | refine CW.skip ?_ | refine CW.label ?_ | refine CW.exit ?_)
                    first | refine CW.condP rfl (fun hc1 => ?_) (fun hc1 => ?_) | refine CW.cond rfl (fun hc1 => ?_) (fun hc1 => ?_)
                    · have hput := fun {w1} (hl : Lives (L ++ D1) w1) h1 h3 => put_abs (v := .slice ab y.length cb) (y := y) (w0 := w1) hR ok few (by omega) hl h1 hy2 h3 (by omega)
                      have ok2 := ok.put y
                      have few2 := few.put y
                      have hk3 : (s.put y).2.2.k = k := (put_k s y).trans hk
                      have hcp2 := put_used huc y
                      have hpl : (s.put y).1.length = 32 := by
                        rcases put_cases s y with ⟨_, _, e⟩ | ⟨_, e, _⟩ | ⟨_, e, _⟩ <;> rw [e]
                        · exact zD_len
                        · exact frontL_len (by omega)
                        · exact frontL_len (by omega)
                      have hpx : (s.put y).2.1 ≠ 0 → usedX (s.put y).2.2.X = usedX s.X := fun h => by
                        rcases put_cases s y with ⟨_, e, _⟩ | ⟨e, _⟩ | ⟨e, _⟩
                        · rw [e]
                        · exact absurd e h
                        · exact absurd e h
                      have hobt : ∃ s2, (s.put y).2.2 = s2 := ⟨_, rfl⟩
                      obtain ⟨s2, hs2⟩ := hobt
                      have hobt : ∃ er, (s.put y).2.1 = er := ⟨_, rfl⟩
                      obtain ⟨er, her⟩ := hobt
                      have hobt : ∃ pd, (s.put y).1 = pd := ⟨_, rfl⟩
                      obtain ⟨pd, hpd⟩ := hobt
                      rw [hs2] at ok2 few2 hk3 hcp2 hpx
                      rw [her] at hpx
                      rw [hpd] at hpl
                      simp only [hs2, her, hpd] at hput
                      have hpll : (u8s pd).length = 32 := by rw [u8s, List.length_map, hpl]
                      repeat (first | refine CW.seq ?_ | refine CW.block ?_ | refine CW.skip ?_ | refine CW.label ?_ | refine CW.exit ?_ | refine CW.condT rfl ?_ | refine CW.condF rfl ?_)
                      refine CW.reg ?_
                      refine WL.val rfl (run_move) ?_
                      refine WL.val rfl (run_field (o' := 1) Try.underlying48 rfl ty22 rfl rfl rfl) ?_
                      refine WL.val rfl (run_load1 ty22 rfl (hs.c1 h1)) ?_
                      refine WL.enter rfl (run_call en12 rfl rfl) (hput (Own.live (A := [_, _]) hs) (hy1.step0 hs.clear) (Own.old (A := [_, _]) hs hy1)) ?_
                      rintro e w ⟨L2, D2, rfl, hR2, hq⟩
                      refine ⟨_, rfl, ?_⟩
                      replace hs := Own.put (A := [_, _]) hs hq
                      refine WL.val rfl (run_move) ?_
                      refine WL.val rfl (run_extract rfl rfl) ?_
                      refine WL.val rfl (run_extract rfl rfl) ?_
                      refine WL.alloc ty27 rfl hs (fun b14 w hs => ?_)
                      first | refine WL.storeAll ty27 rfl rfl ((hpll)) (Cells1.u8s _) hs (by first | rfl | assumption) (fun w hs => ?_) | refine WL.storeAll_1 ty27 rfl rfl ((hpll)) (Cells1.u8s _) hs (by first | rfl | assumption) (fun w hs => ?_) | refine WL.storeAll_2 ty27 rfl rfl ((hpll)) (Cells1.u8s _) hs (by first | rfl | assumption) (fun w hs => ?_) | refine WL.storeAll_3 ty27 rfl rfl ((hpll)) (Cells1.u8s _) hs (by first | rfl | assumption) (fun w hs => ?_) | refine WL.storeAll_4 ty27 rfl rfl ((hpll)) (Cells1.u8s _) hs (by first | rfl | assumption) (fun w hs => ?_) | refine WL.storeAll ty27 rfl rfl ((hpll)) (Cells1.u8s _) hs (by first | rfl | assumption) (fun w hs => ?_)
                      refine WL.val rfl (run_assign) ?_
                      refine WL.nil ?_
                      have hobt : ∃ Dn, D2 ++ D1 = Dn := ⟨_, rfl⟩
                      obtain ⟨Dn, hDn⟩ := hobt
                      rw [hDn] at hR2 hs
                      by_cases he : er = 0
                      · repeat (first | refine CW.seq ?_ | refine CW.block ?_ | refine CW.skip ?_ | refine CW.label ?_ | refine CW.exit ?_ | refine CW.condT rfl ?_ | refine CW.condF rfl ?_)
                        refine CW.reg ?_
                        refine WL.val rfl (run_move) ?_
                        refine WL.val rfl (run_bF (run_neq rfl rfl) (by omega)) ?_
                        refine WL.val rfl (run_move) ?_
                        first | (refine WL.yes rfl rfl rfl ?_; refine WL.val rfl (run_move) ?_) | refine WL.no rfl rfl rfl (.inl rfl) ?_ | refine WL.no rfl rfl rfl (.inr rfl) ?_
                        first | refine WL.no rfl rfl rfl (.inl rfl) ?_ | refine WL.no rfl rfl rfl (.inr rfl) ?_
                        first | (refine WL.yes rfl rfl rfl ?_; refine WL.val rfl (run_move) ?_) | refine WL.no rfl rfl rfl (.inl rfl) ?_ | refine WL.no rfl rfl rfl (.inr rfl) ?_
                        first | (refine WL.yes rfl rfl rfl ?_; refine WL.val rfl (run_neq rfl rfl) ?_) | refine WL.no rfl rfl rfl (.inl rfl) ?_ | refine WL.no rfl rfl rfl (.inr rfl) ?_
                        first | refine WL.val rfl (run_pickT rfl) ?_ | refine WL.val rfl (run_pickF rfl) ?_
                        refine WL.nil ?_
                        repeat (first | refine CW.seq ?_ | refine CW.block ?_ | refine CW.skip ?_ | refine CW.label ?_ | refine CW.exit ?_)
                        first | refine CW.condP rfl (fun hc2 => ?_) (fun hc2 => ?_) | refine CW.cond rfl (fun hc2 => ?_) (fun hc2 => ?_)
                        · cases hc2
                        replace hs := hs.tail.tail.tail
                        repeat (first | refine CW.seq ?_ | refine CW.block ?_ | refine CW.skip ?_ | refine CW.label ?_ | refine CW.exit ?_ | refine CW.condT rfl ?_ | refine CW.condF rfl ?_)
                        refine CW.reg ?_
                        refine WL.val rfl (run_move) ?_
                        refine WL.enter rfl (run_call en27 rfl rfl) (reckoned_spec hR2 ok2 (Own.live (A := []) hs)) ?_
                        rintro e w ⟨rfl, hq⟩
                        refine ⟨_, rfl, ?_⟩
                        replace hs := hs.callE hq
                        first | refine WL.val rfl (run_notB rfl) ?_ | refine WL.val rfl (run_not rfl) ?_
                        refine WL.val rfl (run_move) ?_
                        first | (refine WL.yes rfl rfl rfl ?_; refine WL.val rfl (run_move) ?_) | refine WL.no rfl rfl rfl (.inl rfl) ?_ | refine WL.no rfl rfl rfl (.inr rfl) ?_
                        refine WL.yes rfl rfl rfl ?_
                        refine WL.enter rfl (run_call en22 rfl rfl) (used_abs hR2 ok2 (Own.live (A := []) hs)) ?_
                        rintro e w ⟨rfl, hq⟩
                        refine ⟨_, rfl, ?_⟩
                        replace hs := hs.callE hq
                        first | (refine WL.yes rfl rfl rfl ?_; refine WL.val rfl (run_move) ?_) | refine WL.no rfl rfl rfl (.inl rfl) ?_ | refine WL.no rfl rfl rfl (.inr rfl) ?_
                        refine WL.yes rfl rfl rfl ?_
                        refine WL.enter rfl (run_call en23 rfl rfl) (cap_abs hR2 ok2 (Own.live (A := []) hs)) ?_
                        rintro e w ⟨rfl, hq⟩
                        refine ⟨_, rfl, ?_⟩
                        replace hs := hs.callE hq
                        refine WL.yes rfl rfl rfl ?_
                        refine WL.val rfl (run_bF (run_gtr rfl rfl) (by omega)) ?_
                        first | refine WL.val rfl (run_pickT rfl) ?_ | refine WL.val rfl (run_pickF rfl) ?_
                        refine WL.nil ?_
                        repeat (first | refine CW.seq ?_ | refine CW.block ?_ | refine CW.skip ?_ | refine CW.label ?_ | refine CW.exit ?_)
                        first | refine CW.condP rfl (fun h8 => ?_) (fun h8 => ?_) | refine CW.cond rfl (fun h8 => ?_) (fun h8 => ?_)
                        · cases h8
                        repeat (first | refine CW.seq ?_ | refine CW.block ?_ | refine CW.skip ?_ | refine CW.label ?_ | refine CW.exit ?_ | refine CW.condT rfl ?_ | refine CW.condF rfl ?_)
                        refine CW.reg ?_
                        refine WL.val rfl (run_move) ?_
                        refine WL.val rfl (run_add (c := ((i + 1 : Nat) : Int)) rfl rfl (by omega) (by omega)) ?_
                        refine WL.val rfl (run_assign) ?_
                        refine WL.nil ?_
                        repeat (first | refine CW.seq ?_ | refine CW.block ?_ | refine CW.skip ?_ | refine CW.label ?_ | refine CW.exit ?_)
                        refine (show _ ∧ _ from ⟨rfl, _, ?_, i + 1, s2, L2, Dn, by omega, by omega, rfl, hR2, ok2, few2.mono (by omega), hk3, hcp2, hs, rfl, rfl, rfl, trivial⟩)
                        omega
                      · have hpe := hpx he
                        repeat (first | refine CW.seq ?_ | refine CW.block ?_ | refine CW.skip ?_ | refine CW.label ?_ | refine CW.exit ?_ | refine CW.condT rfl ?_ | refine CW.condF rfl ?_)
                        refine CW.reg ?_
                        refine WL.val rfl (run_move) ?_
                        refine WL.val rfl (run_bT (run_neq rfl rfl) (by omega)) ?_
                        refine WL.val rfl (run_move) ?_
                        first | (refine WL.yes rfl rfl rfl ?_; refine WL.val rfl (run_move) ?_) | refine WL.no rfl rfl rfl (.inl rfl) ?_ | refine WL.no rfl rfl rfl (.inr rfl) ?_
                        refine WL.yes rfl rfl rfl ?_
                        refine WL.enter rfl (run_call en22 rfl rfl) (used_abs hR2 ok2 (Own.live (A := [_, _, _]) hs)) ?_
                        rintro e w ⟨rfl, hq⟩
                        refine ⟨_, rfl, ?_⟩
                        replace hs := hs.callE hq
                        first | (refine WL.yes rfl rfl rfl ?_; refine WL.val rfl (run_move) ?_) | refine WL.no rfl rfl rfl (.inl rfl) ?_ | refine WL.no rfl rfl rfl (.inr rfl) ?_
                        refine WL.yes rfl rfl rfl ?_
                        refine WL.val rfl (run_bF (run_neq rfl rfl) (by omega)) ?_
                        first | refine WL.val rfl (run_pickT rfl) ?_ | refine WL.val rfl (run_pickF rfl) ?_
                        refine WL.nil ?_
                        repeat (first | refine CW.seq ?_ | refine CW.block ?_ | refine CW.skip ?_ | refine CW.label ?_ | refine CW.exit ?_)
                        first | refine CW.condP rfl (fun hc2 => ?_) (fun hc2 => ?_) | refine CW.cond rfl (fun hc2 => ?_) (fun hc2 => ?_)
                        · cases hc2
                        replace hs := hs.tail.tail.tail
                        repeat (first | refine CW.seq ?_ | refine CW.block ?_ | refine CW.skip ?_ | refine CW.label ?_ | refine CW.exit ?_ | refine CW.condT rfl ?_ | refine CW.condF rfl ?_)
                        refine CW.reg ?_
                        refine WL.val rfl (run_move) ?_
                        refine WL.enter rfl (run_call en27 rfl rfl) (reckoned_spec hR2 ok2 (Own.live (A := []) hs)) ?_
                        rintro e w ⟨rfl, hq⟩
                        refine ⟨_, rfl, ?_⟩
                        replace hs := hs.callE hq
                        first | refine WL.val rfl (run_notB rfl) ?_ | refine WL.val rfl (run_not rfl) ?_
                        refine WL.val rfl (run_move) ?_
                        first | (refine WL.yes rfl rfl rfl ?_; refine WL.val rfl (run_move) ?_) | refine WL.no rfl rfl rfl (.inl rfl) ?_ | refine WL.no rfl rfl rfl (.inr rfl) ?_
                        refine WL.yes rfl rfl rfl ?_
                        refine WL.enter rfl (run_call en22 rfl rfl) (used_abs hR2 ok2 (Own.live (A := []) hs)) ?_
                        rintro e w ⟨rfl, hq⟩
                        refine ⟨_, rfl, ?_⟩
                        replace hs := hs.callE hq
                        first | (refine WL.yes rfl rfl rfl ?_; refine WL.val rfl (run_move) ?_) | refine WL.no rfl rfl rfl (.inl rfl) ?_ | refine WL.no rfl rfl rfl (.inr rfl) ?_
                        refine WL.yes rfl rfl rfl ?_
                        refine WL.enter rfl (run_call en23 rfl rfl) (cap_abs hR2 ok2 (Own.live (A := []) hs)) ?_
                        rintro e w ⟨rfl, hq⟩
                        refine ⟨_, rfl, ?_⟩
                        replace hs := hs.callE hq
                        refine WL.yes rfl rfl rfl ?_
                        refine WL.val rfl (run_bF (run_gtr rfl rfl) (by omega)) ?_
                        first | refine WL.val rfl (run_pickT rfl) ?_ | refine WL.val rfl (run_pickF rfl) ?_
                        refine WL.nil ?_
                        repeat (first | refine CW.seq ?_ | refine CW.block ?_ | refine CW.skip ?_ | refine CW.label ?_ | refine CW.exit ?_)
                        first | refine CW.condP rfl (fun h8 => ?_) (fun h8 => ?_) | refine CW.cond rfl (fun h8 => ?_) (fun h8 => ?_)
                        · cases h8
                        repeat (first | refine CW.seq ?_ | refine CW.block ?_ | refine CW.skip ?_ | refine CW.label ?_ | refine CW.exit ?_ | refine CW.condT rfl ?_ | refine CW.condF rfl ?_)
                        refine CW.reg ?_
                        refine WL.val rfl (run_move) ?_
                        refine WL.val rfl (run_add (c := ((i + 1 : Nat) : Int)) rfl rfl (by omega) (by omega)) ?_
                        refine WL.val rfl (run_assign) ?_
                        refine WL.nil ?_
                        repeat (first | refine CW.seq ?_ | refine CW.block ?_ | refine CW.skip ?_ | refine CW.label ?_ | refine CW.exit ?_)
                        refine (show _ ∧ _ from ⟨rfl, _, ?_, i + 1, s2, L2, Dn, by omega, by omega, rfl, hR2, ok2, few2.mono (by omega), hk3, hcp2, hs, rfl, rfl, rfl, trivial⟩)
                        omega
                    · cases hc1
                  · repeat (first | refine CW.seq ?_ | refine CW.block ?_ | refine CW.skip ?_ | refine CW.label ?_ | refine CW.exit ?_ | refine CW.condT rfl ?_ | refine CW.condF rfl ?_)
                    refine CW.reg ?_
                    refine WL.val rfl (run_bF (run_eql rfl rfl) (by exact k1)) ?_
                    refine WL.val rfl (run_assign) ?_
                    refine WL.nil ?_
                    repeat (first | refine CW.seq ?_ | refine CW.block ?_ | refine CW.skip ?_ | refine CW.label ?_ | refine CW.exit ?_)
                    first | refine CW.condP rfl (fun hc1 => ?_) (fun hc1 => ?_) | refine CW.cond rfl (fun hc1 => ?_) (fun hc1 => ?_)
                    · cases hc1
                    by_cases k6 : kind = 6
                    · repeat (first | refine CW.seq ?_ | refine CW.block ?_ | refine CW.skip ?_ | refine CW.label ?_ | refine CW.exit ?_ | refine CW.condT rfl ?_ | refine CW.condF rfl ?_)
                      refine CW.reg ?_
                      refine WL.val rfl (run_bT (run_eql rfl rfl) (by exact k6)) ?_
                      refine WL.val rfl (run_assign) ?_
                      refine WL.nil ?_
                      repeat (first | refine CW.seq ?_ | refine CW.block ?_ | refine CW.skip ?_ | refine CW.label ?_ | refine CW.exit ?_)
                      first | refine CW.condP rfl (fun hc1 => ?_) (fun hc1 => ?_) | refine CW.cond rfl (fun hc1 => ?_) (fun hc1 => ?_)
                      · have hpl := fun {w1} (hl : Lives (L ++ D1) w1) h1 h3 => plant_abs (v := .slice ac z.length cc) (y := z) (d := dd) (w0 := w1) hR ok few (by omega) hl hdd h1 h3 (by omega)
                        have ok2 := ok.plant hdd z
                        have few2 := few.plant dd z
                        have hk3 : (s.plant dd z).2.k = k := (plant_k s dd z).trans hk
                        have hcp2 := plant_used huc dd z
                        have hsum := plant_sum (d := dd) (y := z) ok
                        have hsame : (s.plant dd z).1 ≠ 0 → usedX (s.plant dd z).2.X = usedX s.X := fun h => by
                          rcases plant_cases s dd z with ⟨_, e⟩ | ⟨e, _⟩
                          · rw [e]
                          · exact absurd e h
                        have hobt : ∃ s2, (s.plant dd z).2 = s2 := ⟨_, rfl⟩
                        obtain ⟨s2, hs2⟩ := hobt
                        have hobt : ∃ er, (s.plant dd z).1 = er := ⟨_, rfl⟩
                        obtain ⟨er, her⟩ := hobt
                        rw [hs2] at ok2 few2 hk3 hcp2 hsum hsame
                        rw [her] at hsum hsame
                        rw [hth, hrw0] at hsum
                        simp only [hs2, her] at hpl
                        have hu2 := ok2.used
                        repeat (first | refine CW.seq ?_ | refine CW.block ?_ | refine CW.skip ?_ | refine CW.label ?_ | refine CW.exit ?_ | refine CW.condT rfl ?_ | refine CW.condF rfl ?_)
                        refine CW.reg ?_
                        refine WL.val rfl (run_move) ?_
                        refine WL.val rfl (run_loadN ty27 rfl hddl hs.a0) ?_
                        refine WL.val rfl (run_field (o' := 2) Try.underlying48 rfl ty22 rfl rfl rfl) ?_
                        refine WL.val rfl (run_load1 ty22 rfl (hs.c1 h2)) ?_
                        refine WL.enter rfl (run_call en15 rfl rfl) (hpl (Own.live (A := [_, _]) hs) (hz1.step0 hs.clear) (Own.old (A := [_, _]) hs hz1)) ?_
                        rintro e w ⟨L2, D2, rfl, hR2, hq⟩
                        refine ⟨_, rfl, ?_⟩
                        replace hs := Own.put (A := [_, _]) hs hq
                        refine WL.val rfl (run_assign) ?_
                        refine WL.nil ?_
                        have hobt : ∃ Dn, D2 ++ D1 = Dn := ⟨_, rfl⟩
                        obtain ⟨Dn, hDn⟩ := hobt
                        rw [hDn] at hR2 hs
                        by_cases he : er = 0
                        · have hsm := hsum he
                          cases th
                          · replace hsm : usedX s2.X = usedX s.X + z.length + 32 := by simpa using hsm
                            repeat (first | refine CW.seq ?_ | refine CW.block ?_ | refine CW.skip ?_ | refine CW.label ?_ | refine CW.exit ?_ | refine CW.condT rfl ?_ | refine CW.condF rfl ?_)
                            refine CW.quiet mixedP (by kernel_rfl) hs ?_
                            refine QL.val rfl (fun w hs => run_move) ?_
                            refine QL.val rfl (fun w hs => run_bT (run_eql rfl rfl) (by omega)) ?_
                            refine QL.val rfl (fun w hs => run_move) ?_
                            first | (refine QL.yes rfl rfl rfl ?_; refine QL.val rfl (fun w hs => run_move) ?_) | refine QL.no rfl rfl rfl (.inl rfl) ?_ | refine QL.no rfl rfl rfl (.inr rfl) ?_
                            first | refine QL.val rfl (fun w hs => run_pickT rfl) ?_ | refine QL.val rfl (fun w hs => run_pickF rfl) ?_
                            refine QL.val rfl (fun w hs => run_move) ?_
                            first | (refine QL.yes rfl rfl rfl ?_; refine QL.val rfl (fun w hs => run_move) ?_) | refine QL.no rfl rfl rfl (.inl rfl) ?_ | refine QL.no rfl rfl rfl (.inr rfl) ?_
                            first | refine QL.no rfl rfl rfl (.inl rfl) ?_ | refine QL.no rfl rfl rfl (.inr rfl) ?_
                            first | (refine QL.yes rfl rfl rfl ?_; refine QL.val rfl (fun w hs => run_move) ?_) | refine QL.no rfl rfl rfl (.inl rfl) ?_ | refine QL.no rfl rfl rfl (.inr rfl) ?_
                            first | (refine QL.yes rfl rfl rfl ?_; refine QL.val rfl (fun w hs => run_move) ?_) | refine QL.no rfl rfl rfl (.inl rfl) ?_ | refine QL.no rfl rfl rfl (.inr rfl) ?_
                            first | (refine QL.yes rfl rfl rfl ?_; refine QL.val rfl (fun w hs => run_lenSl Try.underlying22 rfl) ?_) | refine QL.no rfl rfl rfl (.inl rfl) ?_ | refine QL.no rfl rfl rfl (.inr rfl) ?_
                            first | (refine QL.yes rfl rfl rfl ?_; refine QL.val rfl (fun w hs => run_sub rfl rfl rfl (by omega)) ?_) | refine QL.no rfl rfl rfl (.inl rfl) ?_ | refine QL.no rfl rfl rfl (.inr rfl) ?_
                            first | (refine QL.yes rfl rfl rfl ?_; refine QL.val rfl (fun w hs => run_field (o' := 2) Try.underlying48 rfl ty22 rfl rfl rfl) ?_) | refine QL.no rfl rfl rfl (.inl rfl) ?_ | refine QL.no rfl rfl rfl (.inr rfl) ?_
                            first | (refine QL.yes rfl rfl rfl ?_; (first | refine QL.val rfl (fun w hs => run_load1 ty22 rfl (hs.c0 rfl)) ?_ | refine QL.val rfl (fun w hs => run_load1 ty22 rfl (hs.c1 rfl)) ?_ | refine QL.val rfl (fun w hs => run_load1 ty22 rfl (hs.c2 rfl)) ?_ | refine QL.val rfl (fun w hs => run_load1 ty22 rfl (hs.c3 rfl)) ?_ | refine QL.val rfl (fun w hs => run_load1 ty22 rfl (hs.c4 rfl)) ?_ | refine QL.val rfl (fun w hs => run_load1 ty22 rfl (hs.c5 rfl)) ?_ | refine QL.val rfl (fun w hs => run_load1 ty22 rfl (hs.c0 rfl)) ?_)) | refine QL.no rfl rfl rfl (.inl rfl) ?_ | refine QL.no rfl rfl rfl (.inr rfl) ?_
                            first | (refine QL.yes rfl rfl rfl ?_; refine QL.val rfl (fun w hs => run_lenSl Try.underlying22 rfl) ?_) | refine QL.no rfl rfl rfl (.inl rfl) ?_ | refine QL.no rfl rfl rfl (.inr rfl) ?_
                            first | (refine QL.yes rfl rfl rfl ?_; refine QL.val rfl (fun w hs => run_add rfl rfl rfl (by omega)) ?_) | refine QL.no rfl rfl rfl (.inl rfl) ?_ | refine QL.no rfl rfl rfl (.inr rfl) ?_
                            first | (refine QL.yes rfl rfl rfl ?_; refine QL.val rfl (fun w hs => run_neq rfl rfl) ?_) | refine QL.no rfl rfl rfl (.inl rfl) ?_ | refine QL.no rfl rfl rfl (.inr rfl) ?_
                            first | refine QL.val rfl (fun w hs => run_pickT rfl) ?_ | refine QL.val rfl (fun w hs => run_pickF rfl) ?_
                            refine QL.val rfl (fun w hs => run_move) ?_
                            first | (refine QL.yes rfl rfl rfl ?_; refine QL.val rfl (fun w hs => run_move) ?_) | refine QL.no rfl rfl rfl (.inl rfl) ?_ | refine QL.no rfl rfl rfl (.inr rfl) ?_
                            refine QL.yes rfl rfl rfl ?_
                            refine QL.val rfl (fun w hs => run_bT (run_eql rfl rfl) (by omega)) ?_
                            first | (refine QL.yes rfl rfl rfl ?_; refine QL.val rfl (fun w hs => run_move) ?_) | refine QL.no rfl rfl rfl (.inl rfl) ?_ | refine QL.no rfl rfl rfl (.inr rfl) ?_
                            first | (refine QL.yes rfl rfl rfl ?_; refine QL.val rfl (fun w hs => run_move) ?_) | refine QL.no rfl rfl rfl (.inl rfl) ?_ | refine QL.no rfl rfl rfl (.inr rfl) ?_
                            first | (refine QL.yes rfl rfl rfl ?_; (first | refine QL.val rfl (fun w hs => run_notB rfl) ?_ | refine QL.val rfl (fun w hs => run_not rfl) ?_)) | refine QL.no rfl rfl rfl (.inl rfl) ?_ | refine QL.no rfl rfl rfl (.inr rfl) ?_
                            first | (refine QL.yes rfl rfl rfl ?_; (first | refine QL.val rfl (fun w hs => run_pickT rfl) ?_ | refine QL.val rfl (fun w hs => run_pickF rfl) ?_)) | refine QL.no rfl rfl rfl (.inl rfl) ?_ | refine QL.no rfl rfl rfl (.inr rfl) ?_
                            first | (refine QL.yes rfl rfl rfl ?_; refine QL.val rfl (fun w hs => run_move) ?_) | refine QL.no rfl rfl rfl (.inl rfl) ?_ | refine QL.no rfl rfl rfl (.inr rfl) ?_
                            first | (refine QL.yes rfl rfl rfl ?_; refine QL.val rfl (fun w hs => run_move) ?_) | refine QL.no rfl rfl rfl (.inl rfl) ?_ | refine QL.no rfl rfl rfl (.inr rfl) ?_
                            refine QL.yes rfl rfl rfl ?_
                            refine QL.enter rfl (fun w => run_call en22 rfl rfl) (fun w hs => used_abs hR2 ok2 (Own.live (A := [_, _]) hs)) ?_
                            first | (refine QL.yes rfl rfl rfl ?_; refine QL.val rfl (fun w hs => run_move) ?_) | refine QL.no rfl rfl rfl (.inl rfl) ?_ | refine QL.no rfl rfl rfl (.inr rfl) ?_
                            first | (refine QL.yes rfl rfl rfl ?_; refine QL.val rfl (fun w hs => run_field (o' := 2) Try.underlying48 rfl ty22 rfl rfl rfl) ?_) | refine QL.no rfl rfl rfl (.inl rfl) ?_ | refine QL.no rfl rfl rfl (.inr rfl) ?_
                            refine QL.yes rfl rfl rfl ?_
                            refine QL.val rfl (fun w hs => run_load1 ty22 rfl (hs.c1 h2)) ?_
                            first | (refine QL.yes rfl rfl rfl ?_; refine QL.val rfl (fun w hs => run_lenSl Try.underlying22 rfl) ?_) | refine QL.no rfl rfl rfl (.inl rfl) ?_ | refine QL.no rfl rfl rfl (.inr rfl) ?_
                            refine QL.yes rfl rfl rfl ?_
                            refine QL.val rfl (fun w hs => run_add (c := ((usedX s.X + z.length : Nat) : Int)) rfl rfl (by omega) (by omega)) ?_
                            refine QL.yes rfl rfl rfl ?_
                            refine QL.val rfl (fun w hs => run_add (c := ((usedX s.X + z.length + 32 : Nat) : Int)) rfl rfl (by omega) (by omega)) ?_
                            refine QL.yes rfl rfl rfl ?_
                            refine QL.val rfl (fun w hs => run_bF (run_neq rfl rfl) (by omega)) ?_
                            first | (refine QL.yes rfl rfl rfl ?_; (first | refine QL.val rfl (fun w hs => run_pickT rfl) ?_ | refine QL.val rfl (fun w hs => run_pickF rfl) ?_)) | refine QL.no rfl rfl rfl (.inl rfl) ?_ | refine QL.no rfl rfl rfl (.inr rfl) ?_
                            first | refine QL.val rfl (fun w hs => run_pickT rfl) ?_ | refine QL.val rfl (fun w hs => run_pickF rfl) ?_
                            refine QL.val rfl (fun w hs => run_move) ?_
                            first | (refine QL.yes rfl rfl rfl ?_; refine QL.val rfl (fun w hs => run_move) ?_) | refine QL.no rfl rfl rfl (.inl rfl) ?_ | refine QL.no rfl rfl rfl (.inr rfl) ?_
                            refine QL.yes rfl rfl rfl ?_
                            refine QL.val rfl (fun w hs => run_bF (run_neq rfl rfl) (by omega)) ?_
                            first | (refine QL.yes rfl rfl rfl ?_; refine QL.val rfl (fun w hs => run_move) ?_) | refine QL.no rfl rfl rfl (.inl rfl) ?_ | refine QL.no rfl rfl rfl (.inr rfl) ?_
                            first | (refine QL.yes rfl rfl rfl ?_; refine QL.val rfl (fun w hs => run_move) ?_) | refine QL.no rfl rfl rfl (.inl rfl) ?_ | refine QL.no rfl rfl rfl (.inr rfl) ?_
                            first | refine QL.no rfl rfl rfl (.inl rfl) ?_ | refine QL.no rfl rfl rfl (.inr rfl) ?_
                            first | (refine QL.yes rfl rfl rfl ?_; refine QL.val rfl (fun w hs => run_move) ?_) | refine QL.no rfl rfl rfl (.inl rfl) ?_ | refine QL.no rfl rfl rfl (.inr rfl) ?_
                            first | (refine QL.yes rfl rfl rfl ?_; refine QL.val rfl (fun w hs => run_neq rfl rfl) ?_) | refine QL.no rfl rfl rfl (.inl rfl) ?_ | refine QL.no rfl rfl rfl (.inr rfl) ?_
                            first | (refine QL.yes rfl rfl rfl ?_; (first | refine QL.val rfl (fun w hs => run_pickT rfl) ?_ | refine QL.val rfl (fun w hs => run_pickF rfl) ?_)) | refine QL.no rfl rfl rfl (.inl rfl) ?_ | refine QL.no rfl rfl rfl (.inr rfl) ?_
                            first | refine QL.val rfl (fun w hs => run_pickT rfl) ?_ | refine QL.val rfl (fun w hs => run_pickF rfl) ?_
                            refine QL.nil (fun w hs => ?_)
                            repeat (first | refine CW.seq ?_ | refine CW.block ?_ | refine CW.skip ?_ | refine CW.label ?_ | refine CW.exit ?_)
                            first | refine CW.condP rfl (fun hc2 => ?_) (fun hc2 => ?_) | refine CW.cond rfl (fun hc2 => ?_) (fun hc2 => ?_)
                            · cases hc2
                            replace hs := hs.tail.tail
                            repeat (first | refine CW.seq ?_ | refine CW.block ?_ | refine CW.skip ?_ | refine CW.label ?_ | refine CW.exit ?_ | refine CW.condT rfl ?_ | refine CW.condF rfl ?_)
                            refine CW.reg ?_
                            refine WL.val rfl (run_move) ?_
                            refine WL.enter rfl (run_call en27 rfl rfl) (reckoned_spec hR2 ok2 (Own.live (A := []) hs)) ?_
                            rintro e w ⟨rfl, hq⟩
                            refine ⟨_, rfl, ?_⟩
                            replace hs := hs.callE hq
                            first | refine WL.val rfl (run_notB rfl) ?_ | refine WL.val rfl (run_not rfl) ?_
                            refine WL.val rfl (run_move) ?_
                            first | (refine WL.yes rfl rfl rfl ?_; refine WL.val rfl (run_move) ?_) | refine WL.no rfl rfl rfl (.inl rfl) ?_ | refine WL.no rfl rfl rfl (.inr rfl) ?_
                            refine WL.yes rfl rfl rfl ?_
                            refine WL.enter rfl (run_call en22 rfl rfl) (used_abs hR2 ok2 (Own.live (A := []) hs)) ?_
                            rintro e w ⟨rfl, hq⟩
                            refine ⟨_, rfl, ?_⟩
                            replace hs := hs.callE hq
                            first | (refine WL.yes rfl rfl rfl ?_; refine WL.val rfl (run_move) ?_) | refine WL.no rfl rfl rfl (.inl rfl) ?_ | refine WL.no rfl rfl rfl (.inr rfl) ?_
                            refine WL.yes rfl rfl rfl ?_
                            refine WL.enter rfl (run_call en23 rfl rfl) (cap_abs hR2 ok2 (Own.live (A := []) hs)) ?_
                            rintro e w ⟨rfl, hq⟩
                            refine ⟨_, rfl, ?_⟩
                            replace hs := hs.callE hq
                            refine WL.yes rfl rfl rfl ?_
                            refine WL.val rfl (run_bF (run_gtr rfl rfl) (by omega)) ?_
                            first | refine WL.val rfl (run_pickT rfl) ?_ | refine WL.val rfl (run_pickF rfl) ?_
                            refine WL.nil ?_
                            repeat (first | refine CW.seq ?_ | refine CW.block ?_ | refine CW.skip ?_ | refine CW.label ?_ | refine CW.exit ?_)
                            first | refine CW.condP rfl (fun h8 => ?_) (fun h8 => ?_) | refine CW.cond rfl (fun h8 => ?_) (fun h8 => ?_)
                            · cases h8
                            repeat (first | refine CW.seq ?_ | refine CW.block ?_ | refine CW.skip ?_ | refine CW.label ?_ | refine CW.exit ?_ | refine CW.condT rfl ?_ | refine CW.condF rfl ?_)
                            refine CW.reg ?_
                            refine WL.val rfl (run_move) ?_
                            refine WL.val rfl (run_add (c := ((i + 1 : Nat) : Int)) rfl rfl (by omega) (by omega)) ?_
                            refine WL.val rfl (run_assign) ?_
                            refine WL.nil ?_
                            repeat (first | refine CW.seq ?_ | refine CW.block ?_ | refine CW.skip ?_ | refine CW.label ?_ | refine CW.exit ?_)
                            refine (show _ ∧ _ from ⟨rfl, _, ?_, i + 1, s2, L2, Dn, by omega, by omega, rfl, hR2, ok2, few2.mono (by omega), hk3, hcp2, hs, rfl, rfl, rfl, trivial⟩)
                            omega
                          · replace hsm : usedX s2.X + (rw0.length + 32) = usedX s.X + z.length + 32 := by simpa using hsm
                            repeat (first | refine CW.seq ?_ | refine CW.block ?_ | refine CW.skip ?_ | refine CW.label ?_ | refine CW.exit ?_ | refine CW.condT rfl ?_ | refine CW.condF rfl ?_)
                            refine CW.quiet mixedP (by kernel_rfl) hs ?_
                            refine QL.val rfl (fun w hs => run_move) ?_
                            refine QL.val rfl (fun w hs => run_bT (run_eql rfl rfl) (by omega)) ?_
                            refine QL.val rfl (fun w hs => run_move) ?_
                            first | (refine QL.yes rfl rfl rfl ?_; refine QL.val rfl (fun w hs => run_move) ?_) | refine QL.no rfl rfl rfl (.inl rfl) ?_ | refine QL.no rfl rfl rfl (.inr rfl) ?_
                            first | refine QL.val rfl (fun w hs => run_pickT rfl) ?_ | refine QL.val rfl (fun w hs => run_pickF rfl) ?_
                            refine QL.val rfl (fun w hs => run_move) ?_
                            first | (refine QL.yes rfl rfl rfl ?_; refine QL.val rfl (fun w hs => run_move) ?_) | refine QL.no rfl rfl rfl (.inl rfl) ?_ | refine QL.no rfl rfl rfl (.inr rfl) ?_
                            refine QL.yes rfl rfl rfl ?_
                            refine QL.enter rfl (fun w => run_call en22 rfl rfl) (fun w hs => used_abs hR2 ok2 (Own.live (A := [_, _]) hs)) ?_
                            first | (refine QL.yes rfl rfl rfl ?_; refine QL.val rfl (fun w hs => run_move) ?_) | refine QL.no rfl rfl rfl (.inl rfl) ?_ | refine QL.no rfl rfl rfl (.inr rfl) ?_
                            first | (refine QL.yes rfl rfl rfl ?_; refine QL.val rfl (fun w hs => run_move) ?_) | refine QL.no rfl rfl rfl (.inl rfl) ?_ | refine QL.no rfl rfl rfl (.inr rfl) ?_
                            first | (refine QL.yes rfl rfl rfl ?_; refine QL.val rfl (fun w hs => run_lenSl Try.underlying22 rfl) ?_) | refine QL.no rfl rfl rfl (.inl rfl) ?_ | refine QL.no rfl rfl rfl (.inr rfl) ?_
                            refine QL.yes rfl rfl rfl ?_
                            refine QL.val rfl (fun w hs => run_sub (c := ((usedX s.X - rw0.length : Nat) : Int)) rfl rfl (by omega) (by omega)) ?_
                            first | (refine QL.yes rfl rfl rfl ?_; refine QL.val rfl (fun w hs => run_field (o' := 2) Try.underlying48 rfl ty22 rfl rfl rfl) ?_) | refine QL.no rfl rfl rfl (.inl rfl) ?_ | refine QL.no rfl rfl rfl (.inr rfl) ?_
                            refine QL.yes rfl rfl rfl ?_
                            refine QL.val rfl (fun w hs => run_load1 ty22 rfl (hs.c1 h2)) ?_
                            first | (refine QL.yes rfl rfl rfl ?_; refine QL.val rfl (fun w hs => run_lenSl Try.underlying22 rfl) ?_) | refine QL.no rfl rfl rfl (.inl rfl) ?_ | refine QL.no rfl rfl rfl (.inr rfl) ?_
                            refine QL.yes rfl rfl rfl ?_
                            refine QL.val rfl (fun w hs => run_add (c := ((usedX s.X - rw0.length + z.length : Nat) : Int)) rfl rfl (by omega) (by omega)) ?_
                            refine QL.yes rfl rfl rfl ?_
                            refine QL.val rfl (fun w hs => run_bF (run_neq rfl rfl) (by omega)) ?_
                            first | refine QL.val rfl (fun w hs => run_pickT rfl) ?_ | refine QL.val rfl (fun w hs => run_pickF rfl) ?_
                            refine QL.val rfl (fun w hs => run_move) ?_
                            first | (refine QL.yes rfl rfl rfl ?_; refine QL.val rfl (fun w hs => run_move) ?_) | refine QL.no rfl rfl rfl (.inl rfl) ?_ | refine QL.no rfl rfl rfl (.inr rfl) ?_
                            refine QL.yes rfl rfl rfl ?_
                            refine QL.val rfl (fun w hs => run_bT (run_eql rfl rfl) (by omega)) ?_
                            first | (refine QL.yes rfl rfl rfl ?_; refine QL.val rfl (fun w hs => run_move) ?_) | refine QL.no rfl rfl rfl (.inl rfl) ?_ | refine QL.no rfl rfl rfl (.inr rfl) ?_
                            first | (refine QL.yes rfl rfl rfl ?_; refine QL.val rfl (fun w hs => run_move) ?_) | refine QL.no rfl rfl rfl (.inl rfl) ?_ | refine QL.no rfl rfl rfl (.inr rfl) ?_
                            first | (refine QL.yes rfl rfl rfl ?_; (first | refine QL.val rfl (fun w hs => run_notB rfl) ?_ | refine QL.val rfl (fun w hs => run_not rfl) ?_)) | refine QL.no rfl rfl rfl (.inl rfl) ?_ | refine QL.no rfl rfl rfl (.inr rfl) ?_
                            first | (refine QL.yes rfl rfl rfl ?_; (first | refine QL.val rfl (fun w hs => run_pickT rfl) ?_ | refine QL.val rfl (fun w hs => run_pickF rfl) ?_)) | refine QL.no rfl rfl rfl (.inl rfl) ?_ | refine QL.no rfl rfl rfl (.inr rfl) ?_
                            first | (refine QL.yes rfl rfl rfl ?_; refine QL.val rfl (fun w hs => run_move) ?_) | refine QL.no rfl rfl rfl (.inl rfl) ?_ | refine QL.no rfl rfl rfl (.inr rfl) ?_
                            first | (refine QL.yes rfl rfl rfl ?_; refine QL.val rfl (fun w hs => run_move) ?_) | refine QL.no rfl rfl rfl (.inl rfl) ?_ | refine QL.no rfl rfl rfl (.inr rfl) ?_
                            first | refine QL.no rfl rfl rfl (.inl rfl) ?_ | refine QL.no rfl rfl rfl (.inr rfl) ?_
                            first | (refine QL.yes rfl rfl rfl ?_; refine QL.val rfl (fun w hs => run_move) ?_) | refine QL.no rfl rfl rfl (.inl rfl) ?_ | refine QL.no rfl rfl rfl (.inr rfl) ?_
                            first | (refine QL.yes rfl rfl rfl ?_; refine QL.val rfl (fun w hs => run_field (o' := 2) Try.underlying48 rfl ty22 rfl rfl rfl) ?_) | refine QL.no rfl rfl rfl (.inl rfl) ?_ | refine QL.no rfl rfl rfl (.inr rfl) ?_
                            first | (refine QL.yes rfl rfl rfl ?_; (first | refine QL.val rfl (fun w hs => run_load1 ty22 rfl (hs.c0 rfl)) ?_ | refine QL.val rfl (fun w hs => run_load1 ty22 rfl (hs.c1 rfl)) ?_ | refine QL.val rfl (fun w hs => run_load1 ty22 rfl (hs.c2 rfl)) ?_ | refine QL.val rfl (fun w hs => run_load1 ty22 rfl (hs.c3 rfl)) ?_ | refine QL.val rfl (fun w hs => run_load1 ty22 rfl (hs.c4 rfl)) ?_ | refine QL.val rfl (fun w hs => run_load1 ty22 rfl (hs.c5 rfl)) ?_ | refine QL.val rfl (fun w hs => run_load1 ty22 rfl (hs.c0 rfl)) ?_)) | refine QL.no rfl rfl rfl (.inl rfl) ?_ | refine QL.no rfl rfl rfl (.inr rfl) ?_
                            first | (refine QL.yes rfl rfl rfl ?_; refine QL.val rfl (fun w hs => run_lenSl Try.underlying22 rfl) ?_) | refine QL.no rfl rfl rfl (.inl rfl) ?_ | refine QL.no rfl rfl rfl (.inr rfl) ?_
                            first | (refine QL.yes rfl rfl rfl ?_; refine QL.val rfl (fun w hs => run_add rfl rfl rfl (by omega)) ?_) | refine QL.no rfl rfl rfl (.inl rfl) ?_ | refine QL.no rfl rfl rfl (.inr rfl) ?_
                            first | (refine QL.yes rfl rfl rfl ?_; refine QL.val rfl (fun w hs => run_add rfl rfl rfl (by omega)) ?_) | refine QL.no rfl rfl rfl (.inl rfl) ?_ | refine QL.no rfl rfl rfl (.inr rfl) ?_
                            first | (refine QL.yes rfl rfl rfl ?_; refine QL.val rfl (fun w hs => run_neq rfl rfl) ?_) | refine QL.no rfl rfl rfl (.inl rfl) ?_ | refine QL.no rfl rfl rfl (.inr rfl) ?_
                            first | (refine QL.yes rfl rfl rfl ?_; (first | refine QL.val rfl (fun w hs => run_pickT rfl) ?_ | refine QL.val rfl (fun w hs => run_pickF rfl) ?_)) | refine QL.no rfl rfl rfl (.inl rfl) ?_ | refine QL.no rfl rfl rfl (.inr rfl) ?_
                            first | refine QL.val rfl (fun w hs => run_pickT rfl) ?_ | refine QL.val rfl (fun w hs => run_pickF rfl) ?_
                            refine QL.val rfl (fun w hs => run_move) ?_
                            first | (refine QL.yes rfl rfl rfl ?_; refine QL.val rfl (fun w hs => run_move) ?_) | refine QL.no rfl rfl rfl (.inl rfl) ?_ | refine QL.no rfl rfl rfl (.inr rfl) ?_
                            refine QL.yes rfl rfl rfl ?_
                            refine QL.val rfl (fun w hs => run_bF (run_neq rfl rfl) (by omega)) ?_
                            first | (refine QL.yes rfl rfl rfl ?_; refine QL.val rfl (fun w hs => run_move) ?_) | refine QL.no rfl rfl rfl (.inl rfl) ?_ | refine QL.no rfl rfl rfl (.inr rfl) ?_
                            first | (refine QL.yes rfl rfl rfl ?_; refine QL.val rfl (fun w hs => run_move) ?_) | refine QL.no rfl rfl rfl (.inl rfl) ?_ | refine QL.no rfl rfl rfl (.inr rfl) ?_
                            first | refine QL.no rfl rfl rfl (.inl rfl) ?_ | refine QL.no rfl rfl rfl (.inr rfl) ?_
                            first | (refine QL.yes rfl rfl rfl ?_; refine QL.val rfl (fun w hs => run_move) ?_) | refine QL.no rfl rfl rfl (.inl rfl) ?_ | refine QL.no rfl rfl rfl (.inr rfl) ?_
                            first | (refine QL.yes rfl rfl rfl ?_; refine QL.val rfl (fun w hs => run_neq rfl rfl) ?_) | refine QL.no rfl rfl rfl (.inl rfl) ?_ | refine QL.no rfl rfl rfl (.inr rfl) ?_
                            first | (refine QL.yes rfl rfl rfl ?_; (first | refine QL.val rfl (fun w hs => run_pickT rfl) ?_ | refine QL.val rfl (fun w hs => run_pickF rfl) ?_)) | refine QL.no rfl rfl rfl (.inl rfl) ?_ | refine QL.no rfl rfl rfl (.inr rfl) ?_
                            first | refine QL.val rfl (fun w hs => run_pickT rfl) ?_ | refine QL.val rfl (fun w hs => run_pickF rfl) ?_
                            refine QL.nil (fun w hs => ?_)
                            repeat (first | refine CW.seq ?_ | refine CW.block ?_ | refine CW.skip ?_ | refine CW.label ?_ | refine CW.exit ?_)
                            first | refine CW.condP rfl (fun hc2 => ?_) (fun hc2 => ?_) | refine CW.cond rfl (fun hc2 => ?_) (fun hc2 => ?_)
                            · cases hc2
                            replace hs := hs.tail.tail
                            repeat (first | refine CW.seq ?_ | refine CW.block ?_ | refine CW.skip ?_ | refine CW.label ?_ | refine CW.exit ?_ | refine CW.condT rfl ?_ | refine CW.condF rfl ?_)
                            refine CW.reg ?_
                            refine WL.val rfl (run_move) ?_
                            refine WL.enter rfl (run_call en27 rfl rfl) (reckoned_spec hR2 ok2 (Own.live (A := []) hs)) ?_
                            rintro e w ⟨rfl, hq⟩
                            refine ⟨_, rfl, ?_⟩
                            replace hs := hs.callE hq
                            first | refine WL.val rfl (run_notB rfl) ?_ | refine WL.val rfl (run_not rfl) ?_
                            refine WL.val rfl (run_move) ?_
                            first | (refine WL.yes rfl rfl rfl ?_; refine WL.val rfl (run_move) ?_) | refine WL.no rfl rfl rfl (.inl rfl) ?_ | refine WL.no rfl rfl rfl (.inr rfl) ?_
                            refine WL.yes rfl rfl rfl ?_
                            refine WL.enter rfl (run_call en22 rfl rfl) (used_abs hR2 ok2 (Own.live (A := []) hs)) ?_
                            rintro e w ⟨rfl, hq⟩
                            refine ⟨_, rfl, ?_⟩
                            replace hs := hs.callE hq
                            first | (refine WL.yes rfl rfl rfl ?_; refine WL.val rfl (run_move) ?_) | refine WL.no rfl rfl rfl (.inl rfl) ?_ | refine WL.no rfl rfl rfl (.inr rfl) ?_
                            refine WL.yes rfl rfl rfl ?_
                            refine WL.enter rfl (run_call en23 rfl rfl) (cap_abs hR2 ok2 (Own.live (A := []) hs)) ?_
                            rintro e w ⟨rfl, hq⟩
                            refine ⟨_, rfl, ?_⟩
                            replace hs := hs.callE hq
                            refine WL.yes rfl rfl rfl ?_
                            refine WL.val rfl (run_bF (run_gtr rfl rfl) (by omega)) ?_
                            first | refine WL.val rfl (run_pickT rfl) ?_ | refine WL.val rfl (run_pickF rfl) ?_
                            refine WL.nil ?_
                            repeat (first | refine CW.seq ?_ | refine CW.block ?_ | refine CW.skip ?_ | refine CW.label ?_ | refine CW.exit ?_)
                            first | refine CW.condP rfl (fun h8 => ?_) (fun h8 => ?_) | refine CW.cond rfl (fun h8 => ?_) (fun h8 => ?_)
                            · cases h8
                            repeat (first | refine CW.seq ?_ | refine CW.block ?_ | refine CW.skip ?_ | refine CW.label ?_ | refine CW.exit ?_ | refine CW.condT rfl ?_ | refine CW.condF rfl ?_)
                            refine CW.reg ?_
                            refine WL.val rfl (run_move) ?_
                            refine WL.val rfl (run_add (c := ((i + 1 : Nat) : Int)) rfl rfl (by omega) (by omega)) ?_
                            refine WL.val rfl (run_assign) ?_
                            refine WL.nil ?_
                            repeat (first | refine CW.seq ?_ | refine CW.block ?_ | refine CW.skip ?_ | refine CW.label ?_ | refine CW.exit ?_)
                            refine (show _ ∧ _ from ⟨rfl, _, ?_, i + 1, s2, L2, Dn, by omega, by omega, rfl, hR2, ok2, few2.mono (by omega), hk3, hcp2, hs, rfl, rfl, rfl, trivial⟩)
                            omega
                        · have hsm := hsame he
                          repeat (first | refine CW.seq ?_ | refine CW.block ?_ | refine CW.skip ?_ | refine CW.label ?_ | refine CW.exit ?_ | refine CW.condT rfl ?_ | refine CW.condF rfl ?_)
                          refine CW.quiet mixedP (by kernel_rfl) hs ?_
                          refine QL.val rfl (fun w hs => run_move) ?_
                          refine QL.val rfl (fun w hs => run_bF (run_eql rfl rfl) (by omega)) ?_
                          refine QL.val rfl (fun w hs => run_move) ?_
                          first | (refine QL.yes rfl rfl rfl ?_; refine QL.val rfl (fun w hs => run_move) ?_) | refine QL.no rfl rfl rfl (.inl rfl) ?_ | refine QL.no rfl rfl rfl (.inr rfl) ?_
                          first | refine QL.val rfl (fun w hs => run_pickT rfl) ?_ | refine QL.val rfl (fun w hs => run_pickF rfl) ?_
                          refine QL.val rfl (fun w hs => run_move) ?_
                          first | (refine QL.yes rfl rfl rfl ?_; refine QL.val rfl (fun w hs => run_move) ?_) | refine QL.no rfl rfl rfl (.inl rfl) ?_ | refine QL.no rfl rfl rfl (.inr rfl) ?_
                          first | refine QL.no rfl rfl rfl (.inl rfl) ?_ | refine QL.no rfl rfl rfl (.inr rfl) ?_
                          first | (refine QL.yes rfl rfl rfl ?_; refine QL.val rfl (fun w hs => run_move) ?_) | refine QL.no rfl rfl rfl (.inl rfl) ?_ | refine QL.no rfl rfl rfl (.inr rfl) ?_
                          first | (refine QL.yes rfl rfl rfl ?_; refine QL.val rfl (fun w hs => run_move) ?_) | refine QL.no rfl rfl rfl (.inl rfl) ?_ | refine QL.no rfl rfl rfl (.inr rfl) ?_
                          first | (refine QL.yes rfl rfl rfl ?_; refine QL.val rfl (fun w hs => run_lenSl Try.underlying22 rfl) ?_) | refine QL.no rfl rfl rfl (.inl rfl) ?_ | refine QL.no rfl rfl rfl (.inr rfl) ?_
                          first | (refine QL.yes rfl rfl rfl ?_; refine QL.val rfl (fun w hs => run_sub rfl rfl rfl (by omega)) ?_) | refine QL.no rfl rfl rfl (.inl rfl) ?_ | refine QL.no rfl rfl rfl (.inr rfl) ?_
                          first | (refine QL.yes rfl rfl rfl ?_; refine QL.val rfl (fun w hs => run_field (o' := 2) Try.underlying48 rfl ty22 rfl rfl rfl) ?_) | refine QL.no rfl rfl rfl (.inl rfl) ?_ | refine QL.no rfl rfl rfl (.inr rfl) ?_
                          first | (refine QL.yes rfl rfl rfl ?_; (first | refine QL.val rfl (fun w hs => run_load1 ty22 rfl (hs.c0 rfl)) ?_ | refine QL.val rfl (fun w hs => run_load1 ty22 rfl (hs.c1 rfl)) ?_ | refine QL.val rfl (fun w hs => run_load1 ty22 rfl (hs.c2 rfl)) ?_ | refine QL.val rfl (fun w hs => run_load1 ty22 rfl (hs.c3 rfl)) ?_ | refine QL.val rfl (fun w hs => run_load1 ty22 rfl (hs.c4 rfl)) ?_ | refine QL.val rfl (fun w hs => run_load1 ty22 rfl (hs.c5 rfl)) ?_ | refine QL.val rfl (fun w hs => run_load1 ty22 rfl (hs.c0 rfl)) ?_)) | refine QL.no rfl rfl rfl (.inl rfl) ?_ | refine QL.no rfl rfl rfl (.inr rfl) ?_
                          first | (refine QL.yes rfl rfl rfl ?_; refine QL.val rfl (fun w hs => run_lenSl Try.underlying22 rfl) ?_) | refine QL.no rfl rfl rfl (.inl rfl) ?_ | refine QL.no rfl rfl rfl (.inr rfl) ?_
                          first | (refine QL.yes rfl rfl rfl ?_; refine QL.val rfl (fun w hs => run_add rfl rfl rfl (by omega)) ?_) | refine QL.no rfl rfl rfl (.inl rfl) ?_ | refine QL.no rfl rfl rfl (.inr rfl) ?_
                          first | (refine QL.yes rfl rfl rfl ?_; refine QL.val rfl (fun w hs => run_neq rfl rfl) ?_) | refine QL.no rfl rfl rfl (.inl rfl) ?_ | refine QL.no rfl rfl rfl (.inr rfl) ?_
                          first | refine QL.val rfl (fun w hs => run_pickT rfl) ?_ | refine QL.val rfl (fun w hs => run_pickF rfl) ?_
                          refine QL.val rfl (fun w hs => run_move) ?_
                          first | (refine QL.yes rfl rfl rfl ?_; refine QL.val rfl (fun w hs => run_move) ?_) | refine QL.no rfl rfl rfl (.inl rfl) ?_ | refine QL.no rfl rfl rfl (.inr rfl) ?_
                          refine QL.yes rfl rfl rfl ?_
                          refine QL.val rfl (fun w hs => run_bF (run_eql rfl rfl) (by omega)) ?_
                          first | (refine QL.yes rfl rfl rfl ?_; refine QL.val rfl (fun w hs => run_move) ?_) | refine QL.no rfl rfl rfl (.inl rfl) ?_ | refine QL.no rfl rfl rfl (.inr rfl) ?_
                          first | (refine QL.yes rfl rfl rfl ?_; refine QL.val rfl (fun w hs => run_move) ?_) | refine QL.no rfl rfl rfl (.inl rfl) ?_ | refine QL.no rfl rfl rfl (.inr rfl) ?_
                          first | (refine QL.yes rfl rfl rfl ?_; (first | refine QL.val rfl (fun w hs => run_notB rfl) ?_ | refine QL.val rfl (fun w hs => run_not rfl) ?_)) | refine QL.no rfl rfl rfl (.inl rfl) ?_ | refine QL.no rfl rfl rfl (.inr rfl) ?_
                          first | (refine QL.yes rfl rfl rfl ?_; (first | refine QL.val rfl (fun w hs => run_pickT rfl) ?_ | refine QL.val rfl (fun w hs => run_pickF rfl) ?_)) | refine QL.no rfl rfl rfl (.inl rfl) ?_ | refine QL.no rfl rfl rfl (.inr rfl) ?_
                          first | (refine QL.yes rfl rfl rfl ?_; refine QL.val rfl (fun w hs => run_move) ?_) | refine QL.no rfl rfl rfl (.inl rfl) ?_ | refine QL.no rfl rfl rfl (.inr rfl) ?_
                          first | (refine QL.yes rfl rfl rfl ?_; refine QL.val rfl (fun w hs => run_move) ?_) | refine QL.no rfl rfl rfl (.inl rfl) ?_ | refine QL.no rfl rfl rfl (.inr rfl) ?_
                          first | refine QL.no rfl rfl rfl (.inl rfl) ?_ | refine QL.no rfl rfl rfl (.inr rfl) ?_
                          first | (refine QL.yes rfl rfl rfl ?_; refine QL.val rfl (fun w hs => run_move) ?_) | refine QL.no rfl rfl rfl (.inl rfl) ?_ | refine QL.no rfl rfl rfl (.inr rfl) ?_
                          first | (refine QL.yes rfl rfl rfl ?_; refine QL.val rfl (fun w hs => run_field (o' := 2) Try.underlying48 rfl ty22 rfl rfl rfl) ?_) | refine QL.no rfl rfl rfl (.inl rfl) ?_ | refine QL.no rfl rfl rfl (.inr rfl) ?_
                          first | (refine QL.yes rfl rfl rfl ?_; (first | refine QL.val rfl (fun w hs => run_load1 ty22 rfl (hs.c0 rfl)) ?_ | refine QL.val rfl (fun w hs => run_load1 ty22 rfl (hs.c1 rfl)) ?_ | refine QL.val rfl (fun w hs => run_load1 ty22 rfl (hs.c2 rfl)) ?_ | refine QL.val rfl (fun w hs => run_load1 ty22 rfl (hs.c3 rfl)) ?_ | refine QL.val rfl (fun w hs => run_load1 ty22 rfl (hs.c4 rfl)) ?_ | refine QL.val rfl (fun w hs => run_load1 ty22 rfl (hs.c5 rfl)) ?_ | refine QL.val rfl (fun w hs => run_load1 ty22 rfl (hs.c0 rfl)) ?_)) | refine QL.no rfl rfl rfl (.inl rfl) ?_ | refine QL.no rfl rfl rfl (.inr rfl) ?_
                          first | (refine QL.yes rfl rfl rfl ?_; refine QL.val rfl (fun w hs => run_lenSl Try.underlying22 rfl) ?_) | refine QL.no rfl rfl rfl (.inl rfl) ?_ | refine QL.no rfl rfl rfl (.inr rfl) ?_
                          first | (refine QL.yes rfl rfl rfl ?_; refine QL.val rfl (fun w hs => run_add rfl rfl rfl (by omega)) ?_) | refine QL.no rfl rfl rfl (.inl rfl) ?_ | refine QL.no rfl rfl rfl (.inr rfl) ?_
                          first | (refine QL.yes rfl rfl rfl ?_; refine QL.val rfl (fun w hs => run_add rfl rfl rfl (by omega)) ?_) | refine QL.no rfl rfl rfl (.inl rfl) ?_ | refine QL.no rfl rfl rfl (.inr rfl) ?_
                          first | (refine QL.yes rfl rfl rfl ?_; refine QL.val rfl (fun w hs => run_neq rfl rfl) ?_) | refine QL.no rfl rfl rfl (.inl rfl) ?_ | refine QL.no rfl rfl rfl (.inr rfl) ?_
                          first | (refine QL.yes rfl rfl rfl ?_; (first | refine QL.val rfl (fun w hs => run_pickT rfl) ?_ | refine QL.val rfl (fun w hs => run_pickF rfl) ?_)) | refine QL.no rfl rfl rfl (.inl rfl) ?_ | refine QL.no rfl rfl rfl (.inr rfl) ?_
                          first | refine QL.val rfl (fun w hs => run_pickT rfl) ?_ | refine QL.val rfl (fun w hs => run_pickF rfl) ?_
                          refine QL.val rfl (fun w hs => run_move) ?_
                          first | (refine QL.yes rfl rfl rfl ?_; refine QL.val rfl (fun w hs => run_move) ?_) | refine QL.no rfl rfl rfl (.inl rfl) ?_ | refine QL.no rfl rfl rfl (.inr rfl) ?_
                          refine QL.yes rfl rfl rfl ?_
                          refine QL.val rfl (fun w hs => run_bT (run_neq rfl rfl) (by omega)) ?_
                          first | (refine QL.yes rfl rfl rfl ?_; refine QL.val rfl (fun w hs => run_move) ?_) | refine QL.no rfl rfl rfl (.inl rfl) ?_ | refine QL.no rfl rfl rfl (.inr rfl) ?_
                          first | (refine QL.yes rfl rfl rfl ?_; refine QL.val rfl (fun w hs => run_move) ?_) | refine QL.no rfl rfl rfl (.inl rfl) ?_ | refine QL.no rfl rfl rfl (.inr rfl) ?_
                          refine QL.yes rfl rfl rfl ?_
                          refine QL.enter rfl (fun w => run_call en22 rfl rfl) (fun w hs => used_abs hR2 ok2 (Own.live (A := [_, _]) hs)) ?_
                          first | (refine QL.yes rfl rfl rfl ?_; refine QL.val rfl (fun w hs => run_move) ?_) | refine QL.no rfl rfl rfl (.inl rfl) ?_ | refine QL.no rfl rfl rfl (.inr rfl) ?_
                          refine QL.yes rfl rfl rfl ?_
                          refine QL.val rfl (fun w hs => run_bF (run_neq rfl rfl) (by omega)) ?_
                          first | (refine QL.yes rfl rfl rfl ?_; (first | refine QL.val rfl (fun w hs => run_pickT rfl) ?_ | refine QL.val rfl (fun w hs => run_pickF rfl) ?_)) | refine QL.no rfl rfl rfl (.inl rfl) ?_ | refine QL.no rfl rfl rfl (.inr rfl) ?_
                          first | refine QL.val rfl (fun w hs => run_pickT rfl) ?_ | refine QL.val rfl (fun w hs => run_pickF rfl) ?_
                          refine QL.nil (fun w hs => ?_)
                          repeat (first | refine CW.seq ?_ | refine CW.block ?_ | refine CW.skip ?_ | refine CW.label ?_ | refine CW.exit ?_)
                          first | refine CW.condP rfl (fun hc2 => ?_) (fun hc2 => ?_) | refine CW.cond rfl (fun hc2 => ?_) (fun hc2 => ?_)
                          · cases hc2
                          replace hs := hs.tail.tail
                          repeat (first | refine CW.seq ?_ | refine CW.block ?_ | refine CW.skip ?_ | refine CW.label ?_ | refine CW.exit ?_ | refine CW.condT rfl ?_ | refine CW.condF rfl ?_)
                          refine CW.reg ?_
                          refine WL.val rfl (run_move) ?_
                          refine WL.enter rfl (run_call en27 rfl rfl) (reckoned_spec hR2 ok2 (Own.live (A := []) hs)) ?_
                          rintro e w ⟨rfl, hq⟩
                          refine ⟨_, rfl, ?_⟩
                          replace hs := hs.callE hq
                          first | refine WL.val rfl (run_notB rfl) ?_ | refine WL.val rfl (run_not rfl) ?_
                          refine WL.val rfl (run_move) ?_
                          first | (refine WL.yes rfl rfl rfl ?_; refine WL.val rfl (run_move) ?_) | refine WL.no rfl rfl rfl (.inl rfl) ?_ | refine WL.no rfl rfl rfl (.inr rfl) ?_
                          refine WL.yes rfl rfl rfl ?_
                          refine WL.enter rfl (run_call en22 rfl rfl) (used_abs hR2 ok2 (Own.live (A := []) hs)) ?_
                          rintro e w ⟨rfl, hq⟩
                          refine ⟨_, rfl, ?_⟩
                          replace hs := hs.callE hq
                          first | (refine WL.yes rfl rfl rfl ?_; refine WL.val rfl (run_move) ?_) | refine WL.no rfl rfl rfl (.inl rfl) ?_ | refine WL.no rfl rfl rfl (.inr rfl) ?_
                          refine WL.yes rfl rfl rfl ?_
                          refine WL.enter rfl (run_call en23 rfl rfl) (cap_abs hR2 ok2 (Own.live (A := []) hs)) ?_
                          rintro e w ⟨rfl, hq⟩
                          refine ⟨_, rfl, ?_⟩
                          replace hs := hs.callE hq
                          refine WL.yes rfl rfl rfl ?_
                          refine WL.val rfl (run_bF (run_gtr rfl rfl) (by omega)) ?_
                          first | refine WL.val rfl (run_pickT rfl) ?_ | refine WL.val rfl (run_pickF rfl) ?_
                          refine WL.nil ?_
                          repeat (first | refine CW.seq ?_ | refine CW.block ?_ | refine CW.skip ?_ | refine CW.label ?_ | refine CW.exit ?_)
                          first | refine CW.condP rfl (fun h8 => ?_) (fun h8 => ?_) | refine CW.cond rfl (fun h8 => ?_) (fun h8 => ?_)
                          · cases h8
                          repeat (first | refine CW.seq ?_ | refine CW.block ?_ | refine CW.skip ?_ | refine CW.label ?_ | refine CW.exit ?_ | refine CW.condT rfl ?_ | refine CW.condF rfl ?_)
                          refine CW.reg ?_
                          refine WL.val rfl (run_move) ?_
                          refine WL.val rfl (run_add (c := ((i + 1 : Nat) : Int)) rfl rfl (by omega) (by omega)) ?_
                          refine WL.val rfl (run_assign) ?_
                          refine WL.nil ?_
                          repeat (first | refine CW.seq ?_ | refine CW.block ?_ | refine CW.skip ?_ | refine CW.label ?_ | refine CW.exit ?_)
                          refine (show _ ∧ _ from ⟨rfl, _, ?_, i + 1, s2, L2, Dn, by omega, by omega, rfl, hR2, ok2, few2.mono (by omega), hk3, hcp2, hs, rfl, rfl, rfl, trivial⟩)
                          omega
                      · cases hc1
                    · repeat (first | refine CW.seq ?_ | refine CW.block ?_ | refine CW.skip ?_ | refine CW.label ?_ | refine CW.exit ?_ | refine CW.condT rfl ?_ | refine CW.condF rfl ?_)
                      refine CW.reg ?_
                      refine WL.val rfl (run_bF (run_eql rfl rfl) (by exact k6)) ?_
                      refine WL.val rfl (run_assign) ?_
                      refine WL.nil ?_
                      repeat (first | refine CW.seq ?_ | refine CW.block ?_ | refine CW.skip ?_ | refine CW.label ?_ | refine CW.exit ?_)
                      first | refine CW.condP rfl (fun hc1 => ?_) (fun hc1 => ?_) | refine CW.cond rfl (fun hc1 => ?_) (fun hc1 => ?_)
                      · cases hc1
                      by_cases k5 : kind = 5
                      · repeat (first | refine CW.seq ?_ | refine CW.block ?_ | refine CW.skip ?_ | refine CW.label ?_ | refine CW.exit ?_ | refine CW.condT rfl ?_ | refine CW.condF rfl ?_)
                        refine CW.reg ?_
                        refine WL.val rfl (run_bT (run_eql rfl rfl) (by exact k5)) ?_
                        refine WL.val rfl (run_assign) ?_
                        refine WL.nil ?_
                        repeat (first | refine CW.seq ?_ | refine CW.block ?_ | refine CW.skip ?_ | refine CW.label ?_ | refine CW.exit ?_)
                        first | refine CW.condP rfl (fun hc1 => ?_) (fun hc1 => ?_) | refine CW.cond rfl (fun hc1 => ?_) (fun hc1 => ?_)
                        · have hev := fun {w1} (hl : Lives (L ++ D1) w1) => evict_abs (d := dd) (w0 := w1) hR ok hl hdd
                          have ok2 := ok.del dd
                          have few2 := (few.evict dd).mono (Nat.le_succ _)
                          have hk3 : (s.evict dd).k = k := hk
                          have hsum := evict_sum ok dd
                          have hcp2 : usedX (s.evict dd).X ≤ (s.evict dd).cap := by
                            have : (s.evict dd).cap = s.cap := rfl
                            omega
                          have hobt : ∃ s2, s.evict dd = s2 := ⟨_, rfl⟩
                          obtain ⟨s2, hs2⟩ := hobt
                          rw [hs2] at ok2 few2 hk3 hcp2 hsum
                          rw [hth, hrw0] at hsum
                          simp only [hs2, hth] at hev
                          have hobt : ∃ Dn, D1 = Dn := ⟨_, rfl⟩
                          obtain ⟨Dn, hDn⟩ := hobt
                          rw [hDn] at hs hev
                          cases th
                          · repeat (first | refine CW.seq ?_ | refine CW.block ?_ | refine CW.skip ?_ | refine CW.label ?_ | refine CW.exit ?_ | refine CW.condT rfl ?_ | refine CW.condF rfl ?_)
                            refine CW.reg ?_
                            refine WL.val rfl (run_move) ?_
                            refine WL.val rfl (run_loadN ty27 rfl hddl hs.a0) ?_
                            refine WL.enter rfl (run_call en26 rfl rfl) (hev (Own.live (A := [_, _]) hs)) ?_
                            rintro e w ⟨L2, rfl, hR2, hq⟩
                            refine ⟨_, rfl, ?_⟩
                            replace hs := Own.set (A := [_, _]) hs hq
                            refine WL.val rfl (run_move) ?_
                            refine WL.val rfl (run_neqB Try.underlying4 rfl rfl) ?_
                            refine WL.val rfl (run_move) ?_
                            first | (refine WL.yes rfl rfl rfl ?_; refine WL.val rfl (run_move) ?_) | refine WL.no rfl rfl rfl (.inl rfl) ?_ | refine WL.no rfl rfl rfl (.inr rfl) ?_
                            first | (refine WL.yes rfl rfl rfl ?_; refine WL.val rfl (run_move) ?_) | refine WL.no rfl rfl rfl (.inl rfl) ?_ | refine WL.no rfl rfl rfl (.inr rfl) ?_
                            first | (refine WL.yes rfl rfl rfl ?_; refine WL.val rfl (run_move) ?_) | refine WL.no rfl rfl rfl (.inl rfl) ?_ | refine WL.no rfl rfl rfl (.inr rfl) ?_
                            first | refine WL.no rfl rfl rfl (.inl rfl) ?_ | refine WL.no rfl rfl rfl (.inr rfl) ?_
                            first | (refine WL.yes rfl rfl rfl ?_; refine WL.val rfl (run_move) ?_) | refine WL.no rfl rfl rfl (.inl rfl) ?_ | refine WL.no rfl rfl rfl (.inr rfl) ?_
                            first | (refine WL.yes rfl rfl rfl ?_; refine WL.val rfl (run_move) ?_) | refine WL.no rfl rfl rfl (.inl rfl) ?_ | refine WL.no rfl rfl rfl (.inr rfl) ?_
                            first | (refine WL.yes rfl rfl rfl ?_; refine WL.val rfl (run_lenSl Try.underlying22 rfl) ?_) | refine WL.no rfl rfl rfl (.inl rfl) ?_ | refine WL.no rfl rfl rfl (.inr rfl) ?_
                            first | (refine WL.yes rfl rfl rfl ?_; refine WL.val rfl (run_sub rfl rfl rfl (by omega)) ?_) | refine WL.no rfl rfl rfl (.inl rfl) ?_ | refine WL.no rfl rfl rfl (.inr rfl) ?_
                            first | (refine WL.yes rfl rfl rfl ?_; refine WL.val rfl (run_sub rfl rfl rfl (by omega)) ?_) | refine WL.no rfl rfl rfl (.inl rfl) ?_ | refine WL.no rfl rfl rfl (.inr rfl) ?_
                            first | (refine WL.yes rfl rfl rfl ?_; refine WL.val rfl (run_neq rfl rfl) ?_) | refine WL.no rfl rfl rfl (.inl rfl) ?_ | refine WL.no rfl rfl rfl (.inr rfl) ?_
                            first | (refine WL.yes rfl rfl rfl ?_; (first | refine WL.val rfl (run_pickT rfl) ?_ | refine WL.val rfl (run_pickF rfl) ?_)) | refine WL.no rfl rfl rfl (.inl rfl) ?_ | refine WL.no rfl rfl rfl (.inr rfl) ?_
                            first | refine WL.val rfl (run_pickT rfl) ?_ | refine WL.val rfl (run_pickF rfl) ?_
                            refine WL.nil ?_
                            repeat (first | refine CW.seq ?_ | refine CW.block ?_ | refine CW.skip ?_ | refine CW.label ?_ | refine CW.exit ?_)
                            first | refine CW.condP rfl (fun hc2 => ?_) (fun hc2 => ?_) | refine CW.cond rfl (fun hc2 => ?_) (fun hc2 => ?_)
                            · cases hc2
                            replace hs := hs.tail.tail
                            repeat (first | refine CW.seq ?_ | refine CW.block ?_ | refine CW.skip ?_ | refine CW.label ?_ | refine CW.exit ?_ | refine CW.condT rfl ?_ | refine CW.condF rfl ?_)
                            refine CW.reg ?_
                            refine WL.val rfl (run_move) ?_
                            refine WL.enter rfl (run_call en27 rfl rfl) (reckoned_spec hR2 ok2 (Own.live (A := []) hs)) ?_
                            rintro e w ⟨rfl, hq⟩
                            refine ⟨_, rfl, ?_⟩
                            replace hs := hs.callE hq
                            first | refine WL.val rfl (run_notB rfl) ?_ | refine WL.val rfl (run_not rfl) ?_
                            refine WL.val rfl (run_move) ?_
                            first | (refine WL.yes rfl rfl rfl ?_; refine WL.val rfl (run_move) ?_) | refine WL.no rfl rfl rfl (.inl rfl) ?_ | refine WL.no rfl rfl rfl (.inr rfl) ?_
                            refine WL.yes rfl rfl rfl ?_
                            refine WL.enter rfl (run_call en22 rfl rfl) (used_abs hR2 ok2 (Own.live (A := []) hs)) ?_
                            rintro e w ⟨rfl, hq⟩
                            refine ⟨_, rfl, ?_⟩
                            replace hs := hs.callE hq
                            first | (refine WL.yes rfl rfl rfl ?_; refine WL.val rfl (run_move) ?_) | refine WL.no rfl rfl rfl (.inl rfl) ?_ | refine WL.no rfl rfl rfl (.inr rfl) ?_
                            refine WL.yes rfl rfl rfl ?_
                            refine WL.enter rfl (run_call en23 rfl rfl) (cap_abs hR2 ok2 (Own.live (A := []) hs)) ?_
                            rintro e w ⟨rfl, hq⟩
                            refine ⟨_, rfl, ?_⟩
                            replace hs := hs.callE hq
                            refine WL.yes rfl rfl rfl ?_
                            refine WL.val rfl (run_bF (run_gtr rfl rfl) (by omega)) ?_
                            first | refine WL.val rfl (run_pickT rfl) ?_ | refine WL.val rfl (run_pickF rfl) ?_
                            refine WL.nil ?_
                            repeat (first | refine CW.seq ?_ | refine CW.block ?_ | refine CW.skip ?_ | refine CW.label ?_ | refine CW.exit ?_)
                            first | refine CW.condP rfl (fun h8 => ?_) (fun h8 => ?_) | refine CW.cond rfl (fun h8 => ?_) (fun h8 => ?_)
                            · cases h8
                            repeat (first | refine CW.seq ?_ | refine CW.block ?_ | refine CW.skip ?_ | refine CW.label ?_ | refine CW.exit ?_ | refine CW.condT rfl ?_ | refine CW.condF rfl ?_)
                            refine CW.reg ?_
                            refine WL.val rfl (run_move) ?_
                            refine WL.val rfl (run_add (c := ((i + 1 : Nat) : Int)) rfl rfl (by omega) (by omega)) ?_
                            refine WL.val rfl (run_assign) ?_
                            refine WL.nil ?_
                            repeat (first | refine CW.seq ?_ | refine CW.block ?_ | refine CW.skip ?_ | refine CW.label ?_ | refine CW.exit ?_)
                            refine (show _ ∧ _ from ⟨rfl, _, ?_, i + 1, s2, L2, Dn, by omega, by omega, rfl, hR2, ok2, few2.mono (by omega), hk3, hcp2, hs, rfl, rfl, rfl, trivial⟩)
                            omega
                          · replace hsum : usedX s2.X + (rw0.length + 32) = usedX s.X := by simpa using hsum
                            repeat (first | refine CW.seq ?_ | refine CW.block ?_ | refine CW.skip ?_ | refine CW.label ?_ | refine CW.exit ?_ | refine CW.condT rfl ?_ | refine CW.condF rfl ?_)
                            refine CW.reg ?_
                            refine WL.val rfl (run_move) ?_
                            refine WL.val rfl (run_loadN ty27 rfl hddl hs.a0) ?_
                            refine WL.enter rfl (run_call en26 rfl rfl) (hev (Own.live (A := [_, _]) hs)) ?_
                            rintro e w ⟨L2, rfl, hR2, hq⟩
                            refine ⟨_, rfl, ?_⟩
                            replace hs := Own.set (A := [_, _]) hs hq
                            refine WL.val rfl (run_move) ?_
                            refine WL.val rfl (run_neqB Try.underlying4 rfl rfl) ?_
                            refine WL.val rfl (run_move) ?_
                            first | (refine WL.yes rfl rfl rfl ?_; refine WL.val rfl (run_move) ?_) | refine WL.no rfl rfl rfl (.inl rfl) ?_ | refine WL.no rfl rfl rfl (.inr rfl) ?_
                            first | (refine WL.yes rfl rfl rfl ?_; refine WL.val rfl (run_move) ?_) | refine WL.no rfl rfl rfl (.inl rfl) ?_ | refine WL.no rfl rfl rfl (.inr rfl) ?_
                            first | (refine WL.yes rfl rfl rfl ?_; refine WL.val rfl (run_move) ?_) | refine WL.no rfl rfl rfl (.inl rfl) ?_ | refine WL.no rfl rfl rfl (.inr rfl) ?_
                            refine WL.yes rfl rfl rfl ?_
                            refine WL.enter rfl (run_call en22 rfl rfl) (used_abs hR2 ok2 (Own.live (A := [_, _]) hs)) ?_
                            rintro e w ⟨rfl, hq⟩
                            refine ⟨_, rfl, ?_⟩
                            replace hs := hs.callE hq
                            first | (refine WL.yes rfl rfl rfl ?_; refine WL.val rfl (run_move) ?_) | refine WL.no rfl rfl rfl (.inl rfl) ?_ | refine WL.no rfl rfl rfl (.inr rfl) ?_
                            first | (refine WL.yes rfl rfl rfl ?_; refine WL.val rfl (run_move) ?_) | refine WL.no rfl rfl rfl (.inl rfl) ?_ | refine WL.no rfl rfl rfl (.inr rfl) ?_
                            first | (refine WL.yes rfl rfl rfl ?_; refine WL.val rfl (run_lenSl Try.underlying22 rfl) ?_) | refine WL.no rfl rfl rfl (.inl rfl) ?_ | refine WL.no rfl rfl rfl (.inr rfl) ?_
                            refine WL.yes rfl rfl rfl ?_
                            refine WL.val rfl (run_sub (c := ((usedX s.X - rw0.length : Nat) : Int)) rfl rfl (by omega) (by omega)) ?_
                            refine WL.yes rfl rfl rfl ?_
                            refine WL.val rfl (run_sub (c := ((usedX s.X - rw0.length - 32 : Nat) : Int)) rfl rfl (by omega) (by omega)) ?_
                            refine WL.yes rfl rfl rfl ?_
                            refine WL.val rfl (run_bF (run_neq rfl rfl) (by omega)) ?_
                            first | (refine WL.yes rfl rfl rfl ?_; (first | refine WL.val rfl (run_pickT rfl) ?_ | refine WL.val rfl (run_pickF rfl) ?_)) | refine WL.no rfl rfl rfl (.inl rfl) ?_ | refine WL.no rfl rfl rfl (.inr rfl) ?_
                            first | refine WL.val rfl (run_pickT rfl) ?_ | refine WL.val rfl (run_pickF rfl) ?_
                            refine WL.nil ?_
                            repeat (first | refine CW.seq ?_ | refine CW.block ?_ | refine CW.skip ?_ | refine CW.label ?_ | refine CW.exit ?_)
                            first | refine CW.condP rfl (fun hc2 => ?_) (fun hc2 => ?_) | refine CW.cond rfl (fun hc2 => ?_) (fun hc2 => ?_)
                            · cases hc2
                            replace hs := hs.tail.tail
                            repeat (first | refine CW.seq ?_ | refine CW.block ?_ | refine CW.skip ?_ | refine CW.label ?_ | refine CW.exit ?_ | refine CW.condT rfl ?_ | refine CW.condF rfl ?_)
                            refine CW.reg ?_
                            refine WL.val rfl (run_move) ?_
                            refine WL.enter rfl (run_call en27 rfl rfl) (reckoned_spec hR2 ok2 (Own.live (A := []) hs)) ?_
                            rintro e w ⟨rfl, hq⟩
                            refine ⟨_, rfl, ?_⟩
                            replace hs := hs.callE hq
                            first | refine WL.val rfl (run_notB rfl) ?_ | refine WL.val rfl (run_not rfl) ?_
                            refine WL.val rfl (run_move) ?_
                            first | (refine WL.yes rfl rfl rfl ?_; refine WL.val rfl (run_move) ?_) | refine WL.no rfl rfl rfl (.inl rfl) ?_ | refine WL.no rfl rfl rfl (.inr rfl) ?_
                            refine WL.yes rfl rfl rfl ?_
                            refine WL.enter rfl (run_call en22 rfl rfl) (used_abs hR2 ok2 (Own.live (A := []) hs)) ?_
                            rintro e w ⟨rfl, hq⟩
                            refine ⟨_, rfl, ?_⟩
                            replace hs := hs.callE hq
                            first | (refine WL.yes rfl rfl rfl ?_; refine WL.val rfl (run_move) ?_) | refine WL.no rfl rfl rfl (.inl rfl) ?_ | refine WL.no rfl rfl rfl (.inr rfl) ?_
                            refine WL.yes rfl rfl rfl ?_
                            refine WL.enter rfl (run_call en23 rfl rfl) (cap_abs hR2 ok2 (Own.live (A := []) hs)) ?_
                            rintro e w ⟨rfl, hq⟩
                            refine ⟨_, rfl, ?_⟩
                            replace hs := hs.callE hq
                            refine WL.yes rfl rfl rfl ?_
                            refine WL.val rfl (run_bF (run_gtr rfl rfl) (by omega)) ?_
                            first | refine WL.val rfl (run_pickT rfl) ?_ | refine WL.val rfl (run_pickF rfl) ?_
                            refine WL.nil ?_
                            repeat (first | refine CW.seq ?_ | refine CW.block ?_ | refine CW.skip ?_ | refine CW.label ?_ | refine CW.exit ?_)
                            first | refine CW.condP rfl (fun h8 => ?_) (fun h8 => ?_) | refine CW.cond rfl (fun h8 => ?_) (fun h8 => ?_)
                            · cases h8
                            repeat (first | refine CW.seq ?_ | refine CW.block ?_ | refine CW.skip ?_ | refine CW.label ?_ | refine CW.exit ?_ | refine CW.condT rfl ?_ | refine CW.condF rfl ?_)
                            refine CW.reg ?_
                            refine WL.val rfl (run_move) ?_
                            refine WL.val rfl (run_add (c := ((i + 1 : Nat) : Int)) rfl rfl (by omega) (by omega)) ?_
                            refine WL.val rfl (run_assign) ?_
                            refine WL.nil ?_
                            repeat (first | refine CW.seq ?_ | refine CW.block ?_ | refine CW.skip ?_ | refine CW.label ?_ | refine CW.exit ?_)
                            refine (show _ ∧ _ from ⟨rfl, _, ?_, i + 1, s2, L2, Dn, by omega, by omega, rfl, hR2, ok2, few2.mono (by omega), hk3, hcp2, hs, rfl, rfl, rfl, trivial⟩)
                            omega
                        · cases hc1
                      · repeat (first | refine CW.seq ?_ | refine CW.block ?_ | refine CW.skip ?_ | refine CW.label ?_ | refine CW.exit ?_ | refine CW.condT rfl ?_ | refine CW.condF rfl ?_)
                        refine CW.reg ?_
                        refine WL.val rfl (run_bF (run_eql rfl rfl) (by exact k5)) ?_
                        refine WL.val rfl (run_assign) ?_
                        refine WL.nil ?_
                        repeat (first | refine CW.seq ?_ | refine CW.block ?_ | refine CW.skip ?_ | refine CW.label ?_ | refine CW.exit ?_)
                        first | refine CW.condP rfl (fun hc1 => ?_) (fun hc1 => ?_) | refine CW.cond rfl (fun hc1 => ?_) (fun hc1 => ?_)
                        · cases hc1
                        have hobt : ∃ L2 Dn s2, PRep bs s2 Dn L2 ∧ s2.Ok ∧ s2.Few (2 * i + 1) ∧ s2.k = k ∧ usedX s2.X ≤ s2.cap ∧ Step [] ([] ++ (L2 ++ Dn)) w0 w := ⟨L, D1, s, hR, ok, few.mono (Nat.le_succ _), hk, huc, hs.tail.tail⟩
                        obtain ⟨L2, Dn, s2, hR2, ok2, few2, hk3, hcp2, hs⟩ := hobt
                        repeat (first | refine CW.seq ?_ | refine CW.block ?_ | refine CW.skip ?_ | refine CW.label ?_ | refine CW.exit ?_ | refine CW.condT rfl ?_ | refine CW.condF rfl ?_)
                        refine CW.reg ?_
                        refine WL.val rfl (run_move) ?_
                        refine WL.enter rfl (run_call en27 rfl rfl) (reckoned_spec hR2 ok2 (Own.live (A := []) hs)) ?_
                        rintro e w ⟨rfl, hq⟩
                        refine ⟨_, rfl, ?_⟩
                        replace hs := hs.callE hq
                        first | refine WL.val rfl (run_notB rfl) ?_ | refine WL.val rfl (run_not rfl) ?_
                        refine WL.val rfl (run_move) ?_
                        first | (refine WL.yes rfl rfl rfl ?_; refine WL.val rfl (run_move) ?_) | refine WL.no rfl rfl rfl (.inl rfl) ?_ | refine WL.no rfl rfl rfl (.inr rfl) ?_
                        refine WL.yes rfl rfl rfl ?_
                        refine WL.enter rfl (run_call en22 rfl rfl) (used_abs hR2 ok2 (Own.live (A := []) hs)) ?_
                        rintro e w ⟨rfl, hq⟩
                        refine ⟨_, rfl, ?_⟩
                        replace hs := hs.callE hq
                        first | (refine WL.yes rfl rfl rfl ?_; refine WL.val rfl (run_move) ?_) | refine WL.no rfl rfl rfl (.inl rfl) ?_ | refine WL.no rfl rfl rfl (.inr rfl) ?_
                        refine WL.yes rfl rfl rfl ?_
                        refine WL.enter rfl (run_call en23 rfl rfl) (cap_abs hR2 ok2 (Own.live (A := []) hs)) ?_
                        rintro e w ⟨rfl, hq⟩
                        refine ⟨_, rfl, ?_⟩
                        replace hs := hs.callE hq
                        refine WL.yes rfl rfl rfl ?_
                        refine WL.val rfl (run_bF (run_gtr rfl rfl) (by omega)) ?_
                        first | refine WL.val rfl (run_pickT rfl) ?_ | refine WL.val rfl (run_pickF rfl) ?_
                        refine WL.nil ?_
                        repeat (first | refine CW.seq ?_ | refine CW.block ?_ | refine CW.skip ?_ | refine CW.label ?_ | refine CW.exit ?_)
                        first | refine CW.condP rfl (fun h8 => ?_) (fun h8 => ?_) | refine CW.cond rfl (fun h8 => ?_) (fun h8 => ?_)
                        · cases h8
                        repeat (first | refine CW.seq ?_ | refine CW.block ?_ | refine CW.skip ?_ | refine CW.label ?_ | refine CW.exit ?_ | refine CW.condT rfl ?_ | refine CW.condF rfl ?_)
                        refine CW.reg ?_
                        refine WL.val rfl (run_move) ?_
                        refine WL.val rfl (run_add (c := ((i + 1 : Nat) : Int)) rfl rfl (by omega) (by omega)) ?_
                        refine WL.val rfl (run_assign) ?_
                        refine WL.nil ?_
                        repeat (first | refine CW.seq ?_ | refine CW.block ?_ | refine CW.skip ?_ | refine CW.label ?_ | refine CW.exit ?_)
                        refine (show _ ∧ _ from ⟨rfl, _, ?_, i + 1, s2, L2, Dn, by omega, by omega, rfl, hR2, ok2, few2.mono (by omega), hk3, hcp2, hs, rfl, rfl, rfl, trivial⟩)
                        omega
                · cases h4
            · repeat (first | refine CW.seq ?_ | refine CW.block ?_ | refine CW.skip ?_ | refine CW.label ?_ | refine CW.exit ?_ | refine CW.condT rfl ?_ | refine CW.condF rfl ?_)
              refine CW.reg ?_
              refine WL.val rfl (run_field (o' := 1) Try.underlying48 rfl ty22 rfl rfl rfl) ?_
              refine WL.val rfl (run_load1 ty22 rfl (hs.c0 h1)) ?_
              refine WL.val rfl (run_lenSl Try.underlying22 rfl) ?_
              refine WL.val rfl (run_bF (run_gtr rfl rfl) (by omega)) ?_
              refine WL.val rfl (run_move) ?_
              first | (refine WL.yes rfl rfl rfl ?_; refine WL.val rfl (run_field (o' := 2) Try.underlying48 rfl ty22 rfl rfl rfl) ?_) | refine WL.no rfl rfl rfl (.inl rfl) ?_ | refine WL.no rfl rfl rfl (.inr rfl) ?_
              refine WL.yes rfl rfl rfl ?_
              refine WL.val rfl (run_load1 ty22 rfl (hs.c0 h2)) ?_
              first | (refine WL.yes rfl rfl rfl ?_; refine WL.val rfl (run_lenSl Try.underlying22 rfl) ?_) | refine WL.no rfl rfl rfl (.inl rfl) ?_ | refine WL.no rfl rfl rfl (.inr rfl) ?_
              refine WL.yes rfl rfl rfl ?_
              refine WL.val rfl (run_bT (run_gtr rfl rfl) (by omega)) ?_
              first | refine WL.val rfl (run_pickT rfl) ?_ | refine WL.val rfl (run_pickF rfl) ?_
              refine WL.nil ?_
              repeat (first | refine CW.seq ?_ | refine CW.block ?_ | refine CW.skip ?_ | refine CW.label ?_ | refine CW.exit ?_)
              first | refine CW.condP rfl (fun h3 => ?_) (fun h3 => ?_) | refine CW.cond rfl (fun h3 => ?_) (fun h3 => ?_)
              · repeat (first | refine CW.seq ?_ | refine CW.block ?_ | refine CW.skip ?_ | refine CW.label ?_ | refine CW.exit ?_ | refine CW.condT rfl ?_ | refine CW.condF rfl ?_)
                refine CW.reg ?_
                refine WL.val rfl (run_move) ?_
                refine WL.val rfl (run_add (c := ((i + 1 : Nat) : Int)) rfl rfl (by omega) (by omega)) ?_
                refine WL.val rfl (run_assign) ?_
                refine WL.nil ?_
                repeat (first | refine CW.seq ?_ | refine CW.block ?_ | refine CW.skip ?_ | refine CW.label ?_ | refine CW.exit ?_)
                refine (show _ ∧ _ from ⟨rfl, _, ?_, i + 1, s, L, D, by omega, by omega, rfl, hR, ok, few.mono (by omega), hk, huc, hs.tail, rfl, rfl, rfl, trivial⟩)
                omega
              · cases h3
          · repeat (first | refine CW.seq ?_ | refine CW.block ?_ | refine CW.skip ?_ | refine CW.label ?_ | refine CW.exit ?_ | refine CW.condT rfl ?_ | refine CW.condF rfl ?_)
            refine CW.reg ?_
            refine WL.val rfl (run_field (o' := 1) Try.underlying48 rfl ty22 rfl rfl rfl) ?_
            refine WL.val rfl (run_load1 ty22 rfl (hs.c0 h1)) ?_
            refine WL.val rfl (run_lenSl Try.underlying22 rfl) ?_
            refine WL.val rfl (run_bT (run_gtr rfl rfl) (by omega)) ?_
            refine WL.val rfl (run_move) ?_
            first | (refine WL.yes rfl rfl rfl ?_; refine WL.val rfl (run_field (o' := 2) Try.underlying48 rfl ty22 rfl rfl rfl) ?_) | refine WL.no rfl rfl rfl (.inl rfl) ?_ | refine WL.no rfl rfl rfl (.inr rfl) ?_
            first | (refine WL.yes rfl rfl rfl ?_; (first | refine WL.val rfl (run_load1 ty22 rfl (hs.c0 rfl)) ?_ | refine WL.val rfl (run_load1 ty22 rfl (hs.c1 rfl)) ?_ | refine WL.val rfl (run_load1 ty22 rfl (hs.c2 rfl)) ?_ | refine WL.val rfl (run_load1 ty22 rfl (hs.c3 rfl)) ?_ | refine WL.val rfl (run_load1 ty22 rfl (hs.c4 rfl)) ?_ | refine WL.val rfl (run_load1 ty22 rfl (hs.c5 rfl)) ?_ | refine WL.val rfl (run_load1 ty22 rfl (hs.c0 rfl)) ?_)) | refine WL.no rfl rfl rfl (.inl rfl) ?_ | refine WL.no rfl rfl rfl (.inr rfl) ?_
            first | (refine WL.yes rfl rfl rfl ?_; refine WL.val rfl (run_lenSl Try.underlying22 rfl) ?_) | refine WL.no rfl rfl rfl (.inl rfl) ?_ | refine WL.no rfl rfl rfl (.inr rfl) ?_
            first | (refine WL.yes rfl rfl rfl ?_; refine WL.val rfl (run_gtr rfl rfl) ?_) | refine WL.no rfl rfl rfl (.inl rfl) ?_ | refine WL.no rfl rfl rfl (.inr rfl) ?_
            first | refine WL.val rfl (run_pickT rfl) ?_ | refine WL.val rfl (run_pickF rfl) ?_
            refine WL.nil ?_
            repeat (first | refine CW.seq ?_ | refine CW.block ?_ | refine CW.skip ?_ | refine CW.label ?_ | refine CW.exit ?_)
            first | refine CW.condP rfl (fun h3 => ?_) (fun h3 => ?_) | refine CW.cond rfl (fun h3 => ?_) (fun h3 => ?_)
            · repeat (first | refine CW.seq ?_ | refine CW.block ?_ | refine CW.skip ?_ | refine CW.label ?_ | refine CW.exit ?_ | refine CW.condT rfl ?_ | refine CW.condF rfl ?_)
              refine CW.reg ?_
              refine WL.val rfl (run_move) ?_
              refine WL.val rfl (run_add (c := ((i + 1 : Nat) : Int)) rfl rfl (by omega) (by omega)) ?_
              refine WL.val rfl (run_assign) ?_
              refine WL.nil ?_
              repeat (first | refine CW.seq ?_ | refine CW.block ?_ | refine CW.skip ?_ | refine CW.label ?_ | refine CW.exit ?_)
              refine (show _ ∧ _ from ⟨rfl, _, ?_, i + 1, s, L, D, by omega, by omega, rfl, hR, ok, few.mono (by omega), hk, huc, hs.tail, rfl, rfl, rfl, trivial⟩)
              omega
            · cases h3
        · cases h
      · obtain rfl : i = 300 := by omega
        repeat (first | refine CW.seq ?_ | refine CW.block ?_ | refine CW.skip ?_ | refine CW.label ?_ | refine CW.exit ?_ | refine CW.condT rfl ?_ | refine CW.condF rfl ?_)
        refine CW.reg ?_
        refine WL.val rfl (run_move) ?_
        refine WL.val rfl (run_move) ?_
        refine WL.val rfl (run_lenSl Try.underlying46 rfl) ?_
        refine WL.val rfl (run_bT (run_lss rfl rfl) (by omega)) ?_
        refine WL.val rfl (run_move) ?_
        first | (refine WL.yes rfl rfl rfl ?_; refine WL.val rfl (run_move) ?_) | refine WL.no rfl rfl rfl (.inl rfl) ?_ | refine WL.no rfl rfl rfl (.inr rfl) ?_
        refine WL.yes rfl rfl rfl ?_
        refine WL.val rfl (run_bF (run_lss rfl rfl) (by omega)) ?_
        first | refine WL.val rfl (run_pickT rfl) ?_ | refine WL.val rfl (run_pickF rfl) ?_
        refine WL.nil ?_
        repeat (first | refine CW.seq ?_ | refine CW.block ?_ | refine CW.skip ?_ | refine CW.label ?_ | refine CW.exit ?_)
        first | refine CW.condP rfl (fun h => ?_) (fun h => ?_) | refine CW.cond rfl (fun h => ?_) (fun h => ?_)
        · cases h
        repeat (first | refine CW.seq ?_ | refine CW.block ?_ | refine CW.skip ?_ | refine CW.label ?_ | refine CW.exit ?_ | refine CW.condT rfl ?_ | refine CW.condF rfl ?_)
        refine CW.reg ?_
        refine WL.enter rfl (run_call en10 rfl rfl) (head_spec _) ?_
        rintro e w ⟨rfl, hq⟩
        refine ⟨_, rfl, ?_⟩
        replace hs := hs.callE hq
        refine WL.val rfl (run_assign) ?_
        refine WL.nil ?_
        repeat (first | refine CW.seq ?_ | refine CW.block ?_ | refine CW.skip ?_ | refine CW.label ?_ | refine CW.exit ?_ | refine CW.condT rfl ?_ | refine CW.condF rfl ?_)
        refine CW.ret ?_
        refine fin_ret1 rfl ?_
        exact ⟨rfl, hs.clear⟩
    · repeat (first | refine CW.seq ?_ | refine CW.block ?_ | refine CW.skip ?_ | refine CW.label ?_ | refine CW.exit ?_ | refine CW.condT rfl ?_ | refine CW.condF rfl ?_)
      refine CW.reg ?_
      refine WL.val rfl (run_move) ?_
      refine WL.val rfl (run_move) ?_
      refine WL.val rfl (run_lenSl Try.underlying46 rfl) ?_
      refine WL.val rfl (run_bF (run_lss rfl rfl) (by omega)) ?_
      refine WL.val rfl (run_move) ?_
      first | (refine WL.yes rfl rfl rfl ?_; refine WL.val rfl (run_move) ?_) | refine WL.no rfl rfl rfl (.inl rfl) ?_ | refine WL.no rfl rfl rfl (.inr rfl) ?_
      first | (refine WL.yes rfl rfl rfl ?_; refine WL.val rfl (run_lss rfl rfl) ?_) | refine WL.no rfl rfl rfl (.inl rfl) ?_ | refine WL.no rfl rfl rfl (.inr rfl) ?_
      first | refine WL.val rfl (run_pickT rfl) ?_ | refine WL.val rfl (run_pickF rfl) ?_
      refine WL.nil ?_
      repeat (first | refine CW.seq ?_ | refine CW.block ?_ | refine CW.skip ?_ | refine CW.label ?_ | refine CW.exit ?_)
      first | refine CW.condP rfl (fun h => ?_) (fun h => ?_) | refine CW.cond rfl (fun h => ?_) (fun h => ?_)
      · cases h
      repeat (first | refine CW.seq ?_ | refine CW.block ?_ | refine CW.skip ?_ | refine CW.label ?_ | refine CW.exit ?_ | refine CW.condT rfl ?_ | refine CW.condF rfl ?_)
      refine CW.reg ?_
      refine WL.enter rfl (run_call en10 rfl rfl) (head_spec _) ?_
      rintro e w ⟨rfl, hq⟩
      refine ⟨_, rfl, ?_⟩
      replace hs := hs.callE hq
      refine WL.val rfl (run_assign) ?_
      refine WL.nil ?_
      repeat (first | refine CW.seq ?_ | refine CW.block ?_ | refine CW.skip ?_ | refine CW.label ?_ | refine CW.exit ?_ | refine CW.condT rfl ?_ | refine CW.condF rfl ?_)
      refine CW.ret ?_
      refine fin_ret1 rfl ?_
      exact ⟨rfl, hs.clear⟩
end Go.Gx
/-! CasRoom -/
namespace Go.Proofs.Ytakhjiecinpmiaa.casRoom
open Go.ChangeShapes Go.WideShapes Go.ChangeAt Go.RowKit
set_option linter.unusedVariables false

theorem own : ownKnob Try.prog.godebug = none := by kernel_rfl
theorem laid : laidOutB Try.prog = true := by kernel_rfl

set_option maxRecDepth 100000 in
theorem lifted (os : Os) (started : os.Started) (H : Type) (enc : TypeId × Value → H) :
    ReturnsInHanded {} Try.checked os 5 .any (Rows.casRoomSpec.pre6 enc Try.prog Try.f5 Rows.casRoomRow.domain false) (Rows.casRoomSpec.post enc Try.prog Try.f5 false true false false) := by
  refine returnsInHanded_of_change (C := Try.checked) own started (by kernel_rfl) Try.func5
    (ChangeSpec.witness6 (enc := enc) (C := Try.checked) false ⟨#[], #[.int .i64 0, .int .i64 0, .slice none 0 0], []⟩ 12 (by kernel_rfl) (by kernel_rfl) (by kernel_rfl) (by kernel_rfl)) ?_
  intro W base args ds gs before hval0 hW hcnd _
  have hval : ∀ (j : Nat) t v, Try.f5.params[j]? = some t → args[j]? = some v → Value.okWide Try.prog W .any base t v := hval0
  have hW' := hW
  obtain ⟨p, q, hA0, hV, rfl, hfz, hnd⟩ := hW
  have hA : DataW.TrodAll enc Try.prog W 0 (fun _ => true) true Try.f5.params.toList args.toList ds p := hA0
  rw [Try.params5] at hA hval
  obtain ⟨rfl, rfl⟩ := trodVars_none hV
  obtain ⟨vs, hargs, hA⟩ : ∃ vs, args = vs.toArray ∧ DataW.TrodAll enc Try.prog W 0 (fun _ => true) true [3, 3, 46] vs ds p := ⟨args.toList, rfl, hA⟩
  obtain rfl := hargs
  have hA1 := hA
  obtain ⟨v0, vs0, d0, ds0, p0, q0, rfl, rfl, rfl, h0, hA⟩ := trodAll_cons hA
  obtain ⟨v1, vs1, d1, ds1, p1, q1, rfl, rfl, rfl, h1, hA⟩ := trodAll_cons hA
  obtain ⟨v2, vs2, d2, ds2, p2, q2, rfl, rfl, rfl, h2, hA⟩ := trodAll_cons hA
  obtain ⟨rfl, rfl, rfl⟩ := trodAll_nil hA
  clear hA hval0
  simp only [List.append_nil] at hW' hA1 hfz hnd
  obtain ⟨n0, hv0, hn0⟩ := Go.Gx.open_i64 (hval 0 3 v0 rfl rfl) h0
  obtain ⟨n1, hv1, hn1⟩ := Go.Gx.open_i64 (hval 1 3 v1 rfl rfl) h1
  obtain ⟨l2, he2, hr2, hn2⟩ := Go.Gx.open_steps (hval 2 46 v2 rfl rfl) h2
  subst hv0
  subst hv1
  refine (Go.Gx.casroom_spec hn0 hn1 W he2).mono fun e W' ⟨he, hg⟩ => ?_
  subst he
  have hb := hg.below
  have hlt := fun x hx => hW'.lt x hx
  have hst := Go.Gx.trodAll_stays laid hb hA1 (by simpa using hlt) (by intro t ht; simp only [List.mem_cons, List.not_mem_nil, or_false] at ht; rcases ht with rfl | rfl | rfl <;> exact ⟨by kernel_rfl, of_decide_eq_true (by kernel_rfl)⟩)
  refine ⟨_, rfl, [d0, d1, d2], [], _, [], _, [], hW', trodAll_cons_mk (shut_bool Try.underlying4 _) trodAll_mk0, hst, rfl, hb.frame _, fun h => by cases h⟩

theorem over : Rows.casRoomRow.holds Try.pinned (OpenSpec.ofChange Rows.casRoomSpec) :=
  OpenClaim.holds_of_wide 5 Try.f5 rfl rfl rfl rfl rfl rfl rfl ⟨rfl, rfl, rfl, rfl, rfl⟩ rfl rfl rfl rfl rfl (by kernel_rfl) Try.func5 (by kernel_rfl)
    (of_decide_eq_true (by kernel_rfl)) (by unfold Func.isWrapper; first | (rw [if_pos (by decide +kernel)]; kernel_rfl) | (rw [if_neg (by decide +kernel)]; exact ⟨rfl, rfl⟩))
    (fun os started H enc _ => lifted os started H enc)

/-- The statement. -/
theorem proved : Rows.CasRoomSaid :=
  over
#print axioms proved
end Go.Proofs.Ytakhjiecinpmiaa.casRoom
