/- Plain words for chapter 1: forms of numbers; writing. No program in sight. -/
import Derived.Test.YtkdmkjlchlcebaaEq
namespace Go.Gx
set_option linter.unusedVariables false
set_option linter.unusedSimpArgs false

def nbF (u : Nat) : Nat → Nat
  | 0 => 0
  | m + 1 => if u / 256 ^ m = 0 then nbF u m else m + 1
def be (u : Nat) : Nat → List UInt8
  | 0 => []
  | k + 1 => UInt8.ofNat (u / 256 ^ k) :: be u k
def formB (u : Nat) : List UInt8 := if u < 248 then [UInt8.ofNat u] else UInt8.ofNat (247 + nbF u 8) :: be u (nbF u 8)

theorem be_len (u : Nat) : ∀ k, (be u k).length = k
  | 0 => rfl
  | k + 1 => by simp [be, be_len u k]
theorem nbF_le (u : Nat) : ∀ m, nbF u m ≤ m
  | 0 => Nat.le_refl _
  | m + 1 => by
    unfold nbF
    split
    · exact Nat.le_succ_of_le (nbF_le u m)
    · exact Nat.le_refl _
theorem formB_len (u : Nat) : (formB u).length ≤ 9 := by
  unfold formB
  split
  · simp
  · simp only [List.length_cons, be_len]
    have := nbF_le u 8
    omega

/-- What writing these parts leaves: the bytes, the fault. -/
def addF (c : List UInt8) (ft : Int) (ps : List (List UInt8)) : Int := if ft = 0 ∧ c.length + ps.flatten.length > 4194304 then 2 else ft
def addC (c : List UInt8) (ft : Int) (ps : List (List UInt8)) : List UInt8 := if addF c ft ps = 0 then c ++ ps.flatten else c

section
variable {P : Program} {f : Slots} {w : World} {d : Option Tmp} {ty : TypeId} {pos : String} {af : Array Edge} {x y : Operand} {T T' : TypeId} {k k' : IntKind}
theorem run_shrN {u j : Nat} (hx : ev f x = .int k u) (hy : ev f y = .int k' (8 * j : Nat)) (hj : 8 * j < k.bits) :
    (execOp (ev f) ⟨d, .binOp .shr T x y T', ty, pos, af, none⟩).run P w = .ok (.value (.int k (u / 256 ^ j : Nat))) w := by
  rw [run_shr hx hy (by omega)]
  have h1 : min ((8 * j : Nat) : Int).toNat k.bits = 8 * j := by rw [Int.toNat_natCast]; omega
  rw [h1, Int.fdiv_eq_ediv_of_nonneg _ (by exact Int.le_of_lt (Int.pow_pos (by decide)))]
  have e : (2 : Int) ^ (8 * j) = ((256 ^ j : Nat) : Int) := by
    rw [show (256 : Nat) = 2 ^ 8 from rfl, ← Nat.pow_mul]
    exact (Int.natCast_pow 2 (8 * j)).symm
  rw [e, Int.natCast_ediv]
theorem run_convU8 {u : Nat} {ds : TypeDesc} (hs : P.underlying T = some ds) (ht : P.underlying T' = some (.int .u8)) (hx : ev f x = .int k u) :
    (execOp (ev f) ⟨d, .convert T T' x, ty, pos, af, none⟩).run P w = .ok (.value (.int .u8 (UInt8.ofNat u).toNat)) w := by
  rw [run_convInt hs ht hx]
  congr 3
end

theorem Step.own {S : List Nat} {L1 L : List (Nat × Obj)} {w0 w : World} (h : Step S (L1 ++ L) w0 w) : Step (L1.map (·.1)) L1 w w :=
  Step.start h.dropR.nodup h.dropR.has
theorem Step.own0 {S : List Nat} {L1 : List (Nat × Obj)} {w0 w : World} (h : Step S L1 w0 w) : Step (L1.map (·.1)) L1 w w := Step.start h.nodup h.has
theorem Step.rot1 {S : List Nat} {p : Nat × Obj} {L : List (Nat × Obj)} {w0 w : World} (h : Step S (p :: L) w0 w) : Step S (L ++ [p]) w0 w := Step.append_comm (L1 := [p]) h
theorem OwnSl.one {E sz k : Nat} {v : Value} {xs : List Value} {Lv : List (Nat × Obj)} (h : OwnSl E sz v k xs Lv) : v.oneCell' = true := by
  have hobt := h.form
  obtain ⟨a, c, rfl⟩ := hobt
  rfl
theorem u8s_append (a b : List UInt8) : u8s (a ++ b) = u8s a ++ u8s b := by simp [u8s]
theorem u8s_len (a : List UInt8) : (u8s a).length = a.length := by simp [u8s]
theorem Sl.of_own {S : List Nat} {L : List (Nat × Obj)} {w0 w : World} {b T n c : Nat} {cs more : List Value} (hs : Step S L w0 w) (hm : (b, blk T (cs ++ more)) ∈ L) {sz : Nat} (hl : cs.length = n * sz) : Sl w sz (.slice (some ⟨b, 0, none⟩) n c) n cs :=
  .mk hl (At.of_blk (hs.get hm)).left
theorem Sl.own1 {S : List Nat} {L : List (Nat × Obj)} {w0 w : World} {b T n c : Nat} {cs : List Value} (hs : Step S ((b, blk T cs) :: L) w0 w) {sz : Nat} (hl : cs.length = n * sz) : Sl w sz (.slice (some ⟨b, 0, none⟩) n c) n cs :=
  .mk hl (At.of_blk hs.hd)
theorem Step.disj {S : List Nat} {L1 L2 : List (Nat × Obj)} {w0 w : World} (h : Step S (L1 ++ L2) w0 w) : ∀ p ∈ L1, p.1 ∉ L2.map (·.1) := by
  intro p hp hm
  have hn := h.nodup
  rw [List.map_append, List.nodup_append] at hn
  exact hn.2.2 p.1 (List.mem_map_of_mem hp) p.1 hm rfl
theorem OwnSl.outside {E sz k : Nat} {v : Value} {xs : List Value} {Lv : List (Nat × Obj)} {S : List Nat} (h : OwnSl E sz v k xs Lv) (hd : ∀ p ∈ Lv, p.1 ∉ S) : Outside v S := by
  obtain ⟨hl, ⟨rfl, rfl, rfl⟩ | ⟨b, cap, more, rfl, rfl, hc⟩⟩ := h
  · trivial
  · exact hd _ (List.mem_singleton.2 rfl)
/-- What was there before is outside what is new, and outside what is ours but not S's. -/
theorem Outside.fresh {S S' : List Nat} {L : List (Nat × Obj)} {w0 w : World} {sz n : Nat} {v : Value} {cs : List Value} (hv : Sl w0 sz v n cs) (hne : cs ≠ []) (hs : Step S L w0 w) (hS : Outside v S) (hsub : ∀ k ∈ S', k ∈ L.map (·.1)) : Outside v S' := by
  obtain ⟨hl, ⟨a, c, rfl, rfl⟩ | ⟨b, off, c, rfl, hat⟩⟩ := hv
  · exact absurd (List.eq_nil_of_length_eq_zero (by simpa using hl)) hne
  · intro hk
    have hobt := List.mem_map.1 (hsub _ hk)
    obtain ⟨p, hp, hpb⟩ := hobt
    have hlt := hat.lt hne
    rcases hs.new p hp with h1 | h1
    · exact hS (hpb ▸ h1)
    · have : p.1 = b := hpb
      omega
section
variable {P : Program} {f : Slots} {w : World} {d : Option Tmp} {ty : TypeId} {pos : String} {af : Array Edge} {x y : Operand} {T T' : TypeId} {k k' : IntKind}
theorem run_convU64 {u : Nat} {ds : TypeDesc} (hs : P.underlying T = some ds) (ht : P.underlying T' = some (.int .u64)) (hx : ev f x = .int k u) (hu : u < 18446744073709551616) :
    (execOp (ev f) ⟨d, .convert T T' x, ty, pos, af, none⟩).run P w = .ok (.value (.int .u64 u)) w := by
  rw [run_convInt hs ht hx]
  have : IntKind.u64.wrap (u : Int) = u := by
    have e : (2 : Int) ^ IntKind.u64.bits = 18446744073709551616 := by decide
    simp only [IntKind.wrap, IntKind.signed, Bool.false_and, Bool.false_eq_true, if_false, e]
    omega
  rw [this]
theorem run_convI64 {a : Int} {ds : TypeDesc} (hs : P.underlying T = some ds) (ht : P.underlying T' = some (.int .i64)) (hx : ev f x = .int k a) (hu : -9223372036854775808 ≤ a ∧ a ≤ 9223372036854775807) :
    (execOp (ev f) ⟨d, .convert T T' x, ty, pos, af, none⟩).run P w = .ok (.value (.int .i64 a)) w := by
  rw [run_convInt hs ht hx, wrap_i64 hu]
end
end Go.Gx
