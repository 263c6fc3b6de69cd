/- VfsKeeps, walked. -/
import Derived.Test.YtepaojbhjgefiaaDoorVk6
namespace Go.Gx
open Go.Proofs
set_option linter.unusedVariables false
set_option linter.unusedSimpArgs false
set_option maxRecDepth 100000
theorem fs0_new : newV 100000 5 60 = fs0 := rfl
theorem fs0_sane : fs0.Sane := by
  refine ⟨⟨by decide, by decide, by decide, by decide, fun i pl mo h => (by cases h), by decide, by decide, by decide, by decide, by decide⟩, by decide, by decide, by decide, by decide, by decide, by decide, by decide⟩
theorem bit1_lt (z : Int) : bit1 z < 2 := Nat.mod_lt _ (by decide)
section
variable {bf : Nat} {x : List UInt8} {hp : HP} {b : Nat} {T : List HT} {L : List (Nat × Obj)} {w0 w : World}
theorem kopen_spec (p : POk hp b) (hb : b ≤ 90000) (hT : Tail1 T) (hx : x.length ≤ 90000) (hR : VRep bf (ks x (hA hp ++ T)) L) (hg : Gl w) (h0 : 0 ∉ L.map (·.1)) (hw : Step (L.map (·.1)) L w w) {m : Nat} (hm : m = 1 ∨ m = 3) : Calls Tryd.prog 9 #[.pointer (some ⟨bf, 0, none⟩), str [120], .int .i64 (m : Nat)] w fun e w' => ∃ L', e = .returned (.tuple #[.int .i64 (hp.length : Nat), .int .i64 0]) ∧ VRep bf (ks x (hA hp ++ [some (0, 0, m)])) L' ∧ Step (L.map (·.1)) L' w w' := by
  have h1 := open_spec (w0 := w) (p := [120]) (mode := (m : Nat)) hR (p.kok hb hT hx).sane hg h0 hw (by decide)
  have h2 := p.len
  rw [open_ks hA_som hT (by rw [hA_len]; omega) (by omega), if_neg (by omega), hA_len] at h1
  exact h1
theorem kcut_spec (p : POk hp b) (hb : b ≤ 90000) (hT : Tail1 T) (hx : x.length ≤ 90000) (hR : VRep bf (ks x (hA hp ++ T)) L) (hg : Gl w) (h0 : 0 ∉ L.map (·.1)) (hw : Step (L.map (·.1)) L w w) : Calls Tryd.prog 9 #[.pointer (some ⟨bf, 0, none⟩), str [120], .int .i64 6] w fun e w' => ∃ L', e = .returned (.tuple #[.int .i64 (hp.length : Nat), .int .i64 0]) ∧ VRep bf (ks [] (hA hp ++ [some (0, 0, 2)])) L' ∧ Step (L.map (·.1)) L' w w' := by
  have h1 := open_spec (w0 := w) (p := [120]) (mode := 6) hR (p.kok hb hT hx).sane hg h0 hw (by decide)
  have h2 := p.len
  rw [open6_ks hA_som hT (by rw [hA_len]; omega), hA_len] at h1
  exact h1
theorem kclose_spec (p : POk hp b) (hb : b ≤ 90000) (hx : x.length ≤ 90000) {m : Nat} (hm : m ≤ 3) (hR : VRep bf (ks x (hA hp ++ [some (0, 0, m)])) L) (hw : Step (L.map (·.1)) L w w) : Calls Tryd.prog 10 #[.pointer (some ⟨bf, 0, none⟩), .int .i64 (hp.length : Nat)] w fun e w' => ∃ L', e = .returned (.int .i64 0) ∧ VRep bf (ks x (hA hp ++ [none])) L' ∧ Step (L.map (·.1)) L' w w' := by
  have hk : KOk x (hA hp ++ [some (0, 0, m)]) := (p.kok hb (.inr rfl) hx).put fun i q n he => by
    cases he
    exact ⟨rfl, by omega, hm⟩
  have h1 := close_spec (w0 := w) (h := (hp.length : Nat)) hR hk.ok (by show 1 ≤ ((hA hp ++ [some (0, 0, m)] : List HT).filter Option.isSome).length; rw [List.filter_append]; simp) hw
  have h2 := close_ks (x := x) (A := hA hp) hA_som (0, 0, m)
  rw [hA_len] at h2
  rw [h2] at h1
  exact h1
theorem kwrite_spec (p : POk hp b) (hb : b ≤ 90000) (hT : Tail1 T) (hx : x.length ≤ b) (hR : VRep bf (ks x (hA hp ++ T)) L) (hw : Step (L.map (·.1)) L w w) {i q m : Nat} (hi : hp[i]? = some (q, m)) {v : Value} {y : List UInt8} (hy : y.length ≤ 100) (hv : ∀ {L' w'}, Step (L.map (·.1)) L' w w' → Sl w' 1 v y.length (u8s y)) : Calls Tryd.prog 11 #[.pointer (some ⟨bf, 0, none⟩), .int .i64 (i : Nat), v] w fun e w' => ∃ L', e = .returned (.int .i64 0) ∧ VRep bf (if y = [] then ks x (hA hp ++ T) else ks (overL x (if m = 3 then x.length else q) y) (hA (hp.set i ((if m = 3 then x.length else q) + y.length, m)) ++ T)) L' ∧ Step (L.map (·.1)) L' w w' := by
  have h1 := write_spec (w0 := w) (h := (i : Nat)) hR (p.kok hb hT (by omega)).ok hw (by omega) hv
  have h2 := p.at_ _ (List.mem_of_getElem? hi)
  have hlt := (List.getElem?_eq_some_iff.1 hi).1
  rw [write_ks (pl := q) (mo := m) (hA_get hi) (by omega) (by omega) (by omega) hy, hA_set hlt] at h1
  exact h1
theorem kreads_spec (p : POk hp b) (hb : b ≤ 90000) (hT : Tail1 T) (hx : x.length ≤ 90000) (hR : VRep bf (ks x (hA hp ++ T)) L) (hg : Gl w) (h0 : 0 ∉ L.map (·.1)) (hw : Step (L.map (·.1)) L w w) {v : Value} (hsl : ∀ {L' w'}, Step (L.map (·.1)) L' w w' → Sl w' 1 v x.length (u8s x)) :
    Calls Tryd.prog 12 #[.pointer (some ⟨bf, 0, none⟩), v] w fun e w' => ∃ L', e = .returned (.bool true) ∧ VRep bf (ks x (hA hp ++ [none])) L' ∧ Step (L.map (·.1)) L' w w' :=
  reads_spec hA_som hT (p.kok hb hT hx) (p.kok hb (.inr rfl) hx) hR hg h0 hw hsl
end
section
variable {S : List Nat} {A L R Lv : List (Nat × Obj)} {w0 w : World} {E b i k sz : Nat} {xs more : List Value} {u v : Value}
theorem cellIn (hs : Step S A w0 w) (hm : (b, blk E (xs ++ more)) ∈ A) (hi : xs[i]? = some u) : w.cell? ⟨b, 0 + i * 1, none⟩ = some u := by
  have hlt := (List.getElem?_eq_some_iff.1 hi).1
  rw [cell_blk (hs.has _ hm), Nat.zero_add, Nat.mul_one, List.getElem?_append_left hlt, hi]
theorem Cel.cells1 {x : Cel} (h : x.Ok w) : Cells1 x.cells := by
  intro v hv
  simp only [Cel.cells, List.mem_cons, List.not_mem_nil, or_false] at hv
  have hobt := h.hb.form
  obtain ⟨a, c, he⟩ := hobt
  rcases hv with rfl | rfl | rfl
  · rfl
  · rw [he]; rfl
  · rfl
/-- An own slice of the law's, ahead of a call on the files. -/
theorem OwnSl.stays (h : OwnSl E sz v k xs Lv) (hs : Step S (L ++ (Lv ++ R)) w0 w) {L' : List (Nat × Obj)} {w' : World} (hq : Step (L.map (·.1)) L' w w') : Sl w' sz v k xs :=
  (h.slW fun p hp => hs.has p (by simp [hp])).step hq (h.apart (hs.perm (List.perm_append_comm_assoc _ _ _)))
end
theorem set_same {α : Type} {l : List α} {i : Nat} {e : α} (h : l[i]? = some e) : l.set i e = l := by
  have hobt := List.getElem?_eq_some_iff.1 h
  obtain ⟨h1, h2⟩ := hobt
  rw [← h2, List.set_getElem_self]
theorem pset {hp : HP} {a q m : Nat} {mp : List Value} (h : a < hp.length) : (pC hp ++ mp).set (0 + a * 1) (.int .i64 (q : Nat)) = pC (hp.set a (q, m)) ++ mp := by
  rw [Nat.zero_add, Nat.mul_one, List.set_append_left _ _ (by simpa [pC] using h), pC_set]
end Go.Gx
