/- Files in memory: one file "x", several handles. No program in sight. -/
import Derived.Test.YtepaojbhjgefiaaDoorVs17
namespace Go.Gx
open Go.Proofs
set_option linter.unusedVariables false
set_option linter.unusedSimpArgs false
set_option maxRecDepth 100000
abbrev HT := Option (Nat × Nat × Nat)
def fs0 : VS := ⟨[], [([], 0)], [], 100000, 5, 60, 0, 0⟩
/-- The file x with these bytes, these handles. -/
def ks (x : List UInt8) (H : List HT) : VS := ⟨[([120], x)], [([], 1)], H, 100000, 5, 60, x.length, (H.filter Option.isSome).length⟩
structure KOk (x : List UInt8) (H : List HT) : Prop where
  x : x.length ≤ 100000
  h : H.length ≤ 40
  at_ : ∀ i pl mo, some (i, pl, mo) ∈ H → i = 0 ∧ pl ≤ 100000 ∧ mo ≤ 3
section
variable {x : List UInt8} {H A T : List HT} {e : HT}
theorem KOk.op (k : KOk x H) : (H.filter Option.isSome).length ≤ 40 := Nat.le_trans (List.length_filter_le _ _) k.h
theorem KOk.ok (k : KOk x H) : (ks x H).Ok := by
  have h1 := k.x
  have h2 := k.h
  have h3 := k.op
  refine ⟨by show H.length ≤ 1000; omega, by show 1 ≤ 65536; omega, by show 1 ≤ 65536; omega, ?_, fun i pl mo hm => ?_, by show (-9223372036854775808 : Int) ≤ 100000 ∧ (100000 : Int) ≤ _; omega, by show (-9223372036854775808 : Int) ≤ 5 ∧ (5 : Int) ≤ _; omega, by show (-9223372036854775808 : Int) ≤ 60 ∧ (60 : Int) ≤ _; omega, by show x.length ≤ _; omega, by show (H.filter Option.isSome).length ≤ _; omega⟩
  · intro e he
    rw [List.mem_singleton.1 he]
    show x.length ≤ _
    omega
  · have hobt := k.at_ i pl mo hm
    obtain ⟨_, a, b⟩ := hobt
    exact ⟨by omega, b⟩
theorem KOk.sane (k : KOk x H) : (ks x H).Sane := by
  refine ⟨k.ok, by show ((ks x H).dir []).isSome = true; simp [VS.dir, ks], ?_, by show 1 + 1 ≤ 65536; omega, ?_, by simp [ks], by have := k.h; show H.length ≤ 64; omega, rfl⟩
  · intro e he
    rw [List.mem_singleton.1 he]
    show 1 ≤ 1 + 1
    omega
  · intro e he u hu
    rw [List.mem_singleton.1 he] at hu
    cases hu
/-- All of these stand. -/
def Som (A : List HT) : Prop := ∀ a ∈ A, a.isSome
/-- What may stand behind them. -/
def Tail1 (T : List HT) : Prop := T = [] ∨ T = [none]
theorem Som.slot (hA : Som A) (hT : Tail1 T) : (ks x (A ++ T)).slotI = A.length := by
  have h1 : A.findIdx? Option.isNone = none := by
    rw [List.findIdx?_eq_none_iff]
    intro a ha
    have := hA a ha
    cases a
    · cases this
    · rfl
  unfold VS.slotI
  show ((A ++ T).findIdx? Option.isNone).getD (A ++ T).length = _
  rw [List.findIdx?_append, h1]
  rcases hT with rfl | rfl <;> simp
theorem Som.count (hA : Som A) (hT : Tail1 T) : ((A ++ T).filter Option.isSome).length = A.length := by
  rw [List.filter_append, List.filter_eq_self.2 hA]
  rcases hT with rfl | rfl <;> simp
theorem Som.grab (hA : Som A) (hT : Tail1 T) (y : List UInt8) (m : Nat) : ({ ks x (A ++ T) with F := [([120], y)], by_ := y.length } : VS).grab 0 m = ks y (A ++ [some (0, 0, m)]) := by
  have hs : ({ ks x (A ++ T) with F := [([120], y)], by_ := y.length } : VS).slotI = A.length := hA.slot (x := x) hT
  unfold VS.grab
  rw [hs]
  have e1 : ((ks x (A ++ T)).H) = A ++ T := rfl
  have e2 : (ks x (A ++ T)).op = A.length := hA.count hT
  have e3 : ((A ++ [some (0, 0, m)] : List HT).filter Option.isSome).length = A.length + 1 := by
    rw [List.filter_append, List.filter_eq_self.2 hA]
    simp
  simp only [e1, e2]
  unfold ks
  rw [e3]
  rcases hT with rfl | rfl <;> simp
theorem x_clean : cleanE [120] = 0 ∧ cleanS [120] = [120] := by decide
theorem x_way (s : VS) (m : Bool) : s.way m (upsF [] [120]) [] = ([], 0) := rfl
theorem open_ks (hA : Som A) (hT : Tail1 T) (hl : A.length < 60) {m : Nat} (hm : m < 4) : (ks x (A ++ T)).open [120] m = ((A.length : Int), (0 : Int), ks (if m = 2 then [] else x) (A ++ [some (0, 0, m)])) := by
  have hd : (ks x (A ++ T)).dir [120] = none := by simp [VS.dir, ks]
  have hf : (ks x (A ++ T)).file [120] = some 0 := by simp [VS.file, ks]
  have hop : (ks x (A ++ T)).op = A.length := hA.count hT
  have hq : (ks x (A ++ T)).qo = 60 := rfl
  have hmay : (ks x (A ++ T)).mayO [120] (some 0) m [] = 0 := by
    unfold VS.mayO
    rw [hd, hop, hq]
    simp
    omega
  have h4 : m % 4 = m := Nat.mod_eq_of_lt hm
  unfold VS.open
  rw [if_neg (by omega), x_clean.1, x_clean.2]
  simp only [x_way, hf, hmay, ne_eq, not_true_eq_false, if_false, List.cons_ne_nil, Int.toNat_natCast, h4]
  have hg := hA.grab (x := x) hT (if m = 2 then [] else x) m
  have hc : ((ks x (A ++ T)).put1 [120] [] (some 0)).1.cutI m 0 = { ks x (A ++ T) with F := [([120], if m = 2 then [] else x)], by_ := (if m = 2 then [] else x : List UInt8).length } := by
    unfold VS.cutI VS.put1
    rw [h4]
    by_cases h2 : m = 2
    · simp only [h2, if_true, VS.trunc, VS.pth, VS.len, ks, List.foldl_nil]
      simp
    · simp only [h2, if_false, List.foldl_nil]
      rfl
  have hs : ({ ks x (A ++ T) with F := [([120], if m = 2 then [] else x)], by_ := (if m = 2 then [] else x : List UInt8).length } : VS).slotI = A.length := hA.slot (x := x) hT
  show (((((ks x (A ++ T)).put1 [120] [] (some 0)).1.cutI m 0).slotI : Int), (0 : Int), (((ks x (A ++ T)).put1 [120] [] (some 0)).1.cutI m 0).grab 0 m) = _
  rw [hc, hs, hg]
theorem open6_ks (hA : Som A) (hT : Tail1 T) (hl : A.length < 60) : (ks x (A ++ T)).open [120] 6 = ((A.length : Int), (0 : Int), ks [] (A ++ [some (0, 0, 2)])) := by
  have hd : (ks x (A ++ T)).dir [120] = none := by simp [VS.dir, ks]
  have hf : (ks x (A ++ T)).file [120] = some 0 := by simp [VS.file, ks]
  have hop : (ks x (A ++ T)).op = A.length := hA.count hT
  have hq : (ks x (A ++ T)).qo = 60 := rfl
  have hmay : (ks x (A ++ T)).mayO [120] (some 0) 6 [] = 0 := by
    unfold VS.mayO
    rw [hd, hop, hq]
    simp
    omega
  unfold VS.open
  rw [if_neg (by omega), x_clean.1, x_clean.2]
  simp only [x_way, hf, hmay, ne_eq, not_true_eq_false, if_false, List.cons_ne_nil]
  have hg := hA.grab (x := x) hT [] 2
  have hc : ((ks x (A ++ T)).put1 [120] [] (some 0)).1.cutI 6 0 = { ks x (A ++ T) with F := [([120], [])], by_ := ([] : List UInt8).length } := by
    unfold VS.cutI VS.put1
    simp only [VS.trunc, VS.pth, VS.len, ks, List.foldl_nil]
    simp
  have hs : ({ ks x (A ++ T) with F := [([120], [])], by_ := ([] : List UInt8).length } : VS).slotI = A.length := hA.slot (x := x) hT
  show (((((ks x (A ++ T)).put1 [120] [] (some 0)).1.cutI 6 0).slotI : Int), (0 : Int), (((ks x (A ++ T)).put1 [120] [] (some 0)).1.cutI 6 0).grab 0 2) = _
  rw [hc, hs, hg]
theorem open_first : fs0.open [120] 2 = (0, 0, ks [] [some (0, 0, 2)]) := by
  unfold VS.open
  rw [if_neg (by omega), x_clean.1, x_clean.2]
  rfl
theorem close_ks (hA : Som A) (a : Nat × Nat × Nat) : (ks x (A ++ [some a])).close A.length = (0, ks x (A ++ [none])) := by
  have hi : (ks x (A ++ [some a])).is A.length = some a := by
    unfold VS.is
    rw [if_pos (by omega), Int.toNat_natCast]
    show ((A ++ [some a])[A.length]?).join = _
    rw [List.getElem?_append_right (Nat.le_refl _), Nat.sub_self]
    rfl
  have e1 : ((A ++ [some a] : List HT).filter Option.isSome).length = A.length + 1 := by
    rw [List.filter_append, List.filter_eq_self.2 hA]
    simp
  have e2 : ((A ++ [none] : List HT).filter Option.isSome).length = A.length := hA.count (.inr rfl)
  unfold VS.close
  rw [hi]
  simp only [Int.toNat_natCast, ks, e1, e2]
  simp
theorem is_ks {i : Nat} {h : Nat × Nat × Nat} (hi : H[i]? = some (some h)) : (ks x H).is i = some h := by
  unfold VS.is
  rw [if_pos (by omega), Int.toNat_natCast]
  show (H[i]?).join = _
  rw [hi]
  rfl
theorem filter_set {i : Nat} {h h' : Nat × Nat × Nat} (hi : H[i]? = some (some h)) : ((H.set i (some h')).filter Option.isSome).length = (H.filter Option.isSome).length := by
  induction H generalizing i with
  | nil => rfl
  | cons a H ih =>
    cases i with
    | zero =>
      simp only [List.getElem?_cons_zero, Option.some.injEq] at hi
      subst hi
      simp
    | succ i =>
      rw [List.getElem?_cons_succ] at hi
      rw [List.set_cons_succ, List.filter_cons, List.filter_cons]
      split
      · rw [List.length_cons, List.length_cons, ih hi]
      · exact ih hi
/-- A write through one of the handles. -/
theorem write_ks {i pl mo : Nat} {b : List UInt8} (hi : H[i]? = some (some (0, pl, mo))) (hmo : mo ≠ 0) (hx : x.length ≤ 90000) (hpl : pl ≤ 90000) (hb : b.length ≤ 100) : (ks x H).write i b = (0, if b = [] then ks x H else ks (overL x (if mo = 3 then x.length else pl) b) (H.set i (some (0, (if mo = 3 then x.length else pl) + b.length, mo)))) := by
  have his := is_ks (x := x) hi
  have hln : (ks x H).len 0 = x.length := rfl
  have hfr : (ks x H).from_ 0 pl mo = if mo = 3 then x.length else pl := rfl
  have hq : (ks x H).qb = 100000 := rfl
  have hby : (ks x H).by_ = x.length := rfl
  have hmay : (ks x H).may i b.length = 0 := by
    unfold VS.may
    rw [his]
    simp only [hln, hfr, hq, hby]
    rw [if_neg hmo, if_neg (by omega)]
    by_cases h0 : (b.length : Int) = 0
    · rw [if_pos h0]
    · rw [if_neg h0]
      by_cases h3 : mo = 3
      · simp only [h3, if_true]
        rw [if_neg (by omega), if_neg (by omega)]
      · simp only [h3, if_false]
        rw [if_neg (by omega), if_neg (by omega)]
  unfold VS.write
  rw [hmay]
  by_cases h0 : b = []
  · rw [if_pos (.inr h0), if_pos h0]
  · rw [if_neg (fun h => h.elim (fun h => h rfl) h0), if_neg h0, his]
    simp only [hln, hfr, hby, Int.toNat_natCast]
    have e1 : (ks x H).pth 0 = [120] := rfl
    have e2 : (ks x H).data 0 = x := rfl
    rw [e1, e2]
    unfold ks
    rw [filter_set hi, overL_len]
    simp only [List.set_cons_zero]
    congr 2
    omega
/-- A read by a handle of its own. -/
theorem read_ks {i pl : Nat} {n : Nat} (hi : H[i]? = some (some (0, pl, 0))) : (ks x H).read i n = ((x.drop pl).take n, 0, ks x (H.set i (some (0, pl + min n (x.length - pl), 0)))) := by
  have his := is_ks (x := x) hi
  have hpk : (ks x H).peek i n = (((min n (x.length - pl) : Nat) : Int), (0 : Int)) := by
    unfold VS.peek
    rw [his]
    simp only [show (ks x H).len 0 = x.length from rfl, ne_eq, not_true_eq_false, if_false]
    rw [if_neg (by omega)]
    congr 1
    omega
  have hset : H.set i (some (0, pl, 0)) = H := by
    have := (List.getElem?_eq_some_iff.1 hi)
    obtain ⟨h1, h2⟩ := this
    rw [← h2, List.set_getElem_self]
  unfold VS.read
  rw [hpk]
  by_cases h0 : min n (x.length - pl) = 0
  · rw [if_pos (.inr (by rw [h0]; rfl)), h0, Nat.add_zero, hset]
    have : (x.drop pl).take n = [] := by
      apply List.eq_nil_of_length_eq_zero
      rw [List.length_take, List.length_drop]
      exact h0
    rw [this]
  · rw [if_neg (fun h => h.elim (fun h => h rfl) (fun h => h0 (by simpa using h))), his]
    simp only [Int.toNat_natCast]
    have e2 : (ks x H).data 0 = x := rfl
    rw [e2]
    have e3 : (x.drop pl).take (min n (x.length - pl)) = (x.drop pl).take n := by
      rw [← List.length_drop, Nat.min_comm, List.take_eq_take_iff]
      simp
      exact Nat.min_comm _ _
    rw [e3]
    unfold ks
    rw [filter_set hi]
end
end Go.Gx
