/- Files in memory: reads, the walk. -/
import Derived.Test.YtepaojbhjgefiaaDoorVk2
namespace Go.Gx
open Go.Proofs
set_option linter.unusedVariables false
set_option linter.unusedSimpArgs false
set_option maxRecDepth 100000
section
variable {P : Program} {f : Slots} {w : World} {d : Option Tmp} {ty : TypeId} {pos : String} {af : Array Edge} {x y : Operand} {T T' E : TypeId}
theorem run_quoN {n m : Nat} (hx : ev f x = .int .i64 n) (hy : ev f y = .int .i64 m) (hm : m ≠ 0) (hn : n < 9223372036854775808) : (execOp (ev f) ⟨d, .binOp .quo T x y T', ty, pos, af, none⟩).run P w = .ok (.value (.int .i64 ((n / m : Nat) : Int))) w := by
  rw [run_quoW hx hy (by omega)]
  have e : (n : Int).tdiv m = ((n / m : Nat) : Int) := by rw [Int.ofNat_tdiv]
  have h2 : n / m ≤ n := Nat.div_le_self n m
  have hobt : ∃ q, n / m = q := ⟨_, rfl⟩
  obtain ⟨q, hq⟩ := hobt
  rw [hq] at h2
  rw [e, hq, wrap_i64 (by omega)]
end
section
variable {α : Type}
theorem perm_k2 {a b c : List α} : ((a ++ b) ++ c).Perm (b ++ (a ++ c)) := by
  rw [List.append_assoc]
  exact List.perm_append_comm_assoc _ _ _
end
section
variable {S : List Nat} {L L' : List (Nat × Obj)} {w0 w w' : World}
theorem Step.own1 (h : Step S L w0 w) : Step (L.map (·.1)) L w w := by
  have h1 : Step S (L ++ []) w0 w := by rw [List.append_nil]; exact h
  exact h1.own
theorem Step.call1 (h : Step S L w0 w) (hc : Step (L.map (·.1)) L' w w') : Step S L' w0 w' := by
  have h1 : Step S (L ++ []) w0 w := by rw [List.append_nil]; exact h
  have h2 := h1.call hc
  rwa [List.append_nil] at h2
end
section
variable {x : List UInt8} {A T : List HT}
theorem read_ksA {pl n : Nat} : (ks x (A ++ [some (0, pl, 0)])).read A.length n = ((x.drop pl).take n, 0, ks x (A ++ [some (0, pl + min n (x.length - pl), 0)])) := by
  rw [read_ks (pl := pl) (by rw [List.getElem?_append_right (Nat.le_refl _), Nat.sub_self]; rfl)]
  simp
theorem KOk.put {H : List HT} {e e' : HT} (k : KOk x (H ++ [e])) (h : ∀ i pl mo, e' = some (i, pl, mo) → i = 0 ∧ pl ≤ 100000 ∧ mo ≤ 3) : KOk x (H ++ [e']) := by
  refine ⟨k.x, by have := k.h; simpa using this, fun i pl mo hm => ?_⟩
  rcases List.mem_append.1 hm with h1 | h1
  · exact k.at_ i pl mo (List.mem_append.2 (.inl h1))
  · exact h i pl mo (List.mem_singleton.1 h1).symm
end
section
variable {bf : Nat} {x : List UInt8} {A T : List HT} {L : List (Nat × Obj)} {w0 : World}
set_option maxHeartbeats 4000000 in
theorem reads_spec (hA : Som A) (hT : Tail1 T) (kT : KOk x (A ++ T)) (k : KOk x (A ++ [none])) (hR : VRep bf (ks x (A ++ T)) L) (hg : Gl w0) (h0 : 0 ∉ L.map (·.1)) (hw : Step (L.map (·.1)) L w0 w0) {v : Value} (hsl : ∀ {L' w}, Step (L.map (·.1)) L' w0 w → Sl w 1 v x.length (u8s x)) :
    Calls Tryd.prog 12 #[.pointer (some ⟨bf, 0, none⟩), v] w0 fun e w' => ∃ L', e = .returned (.bool true) ∧ VRep bf (ks x (A ++ [none])) L' ∧ Step (L.map (·.1)) L' w0 w' := by
  have hs : Step (L.map (·.1)) L w0 w0 := hw
  have hobt := (hsl hs).form
  obtain ⟨av, cv, rfl⟩ := hobt
  have hxl := k.x
  have hAl : A.length < 40 := by
    have := k.h
    simp at this
    omega
  have k0 : ∀ pl, pl ≤ 100000 → KOk x (A ++ [some (0, pl, 0)]) := fun pl hp => k.put fun i p m he => by
    cases he
    exact ⟨rfl, hp, by omega⟩
  have hop := fun {w} (hg : Gl w) (hw : Step (L.map (·.1)) L w w) => open_spec (w0 := w) (p := [120]) (mode := ((0 : Nat) : Int)) hR kT.sane hg h0 hw (by decide)
  rw [open_ks hA hT (by omega) (by omega)] at hop
  simp only [if_neg (show ¬ (0 = 2) by omega)] at hop
  have hrd := fun {L' w} (pl n : Nat) (hpl : pl ≤ 100000) (hn : n ≤ 9223372036854775807) (hR : VRep bf (ks x (A ++ [some (0, pl, 0)])) L') (hw : Step (L'.map (·.1)) L' w w) => read_spec (w0 := w) (h := (A.length : Nat)) (n := (n : Nat)) hR (k0 pl hpl).ok hw ⟨by omega, by omega⟩
  simp only [read_ksA] at hrd
  have hcl := fun {L' w} (pl : Nat) (hpl : pl ≤ 100000) (hR : VRep bf (ks x (A ++ [some (0, pl, 0)])) L') (hw : Step (L'.map (·.1)) L' w w) => close_spec (w0 := w) (h := (A.length : Nat)) hR (k0 pl hpl).ok (by show 1 ≤ ((A ++ [some (0, pl, 0)] : List HT).filter Option.isSome).length; rw [List.filter_append]; simp) hw
  simp only [close_ks hA] at hcl
  have hobt : ∃ S, L.map (·.1) = S := ⟨_, rfl⟩
  obtain ⟨S, hS⟩ := hobt
  rw [hS] at hs h0 ⊢
  simp only [hS] at hsl
  have hobt : ∃ n, x.length = n := ⟨_, rfl⟩
  obtain ⟨n, hn⟩ := hobt
  simp only [hn] at hsl hxl hrd ⊢
  have hobt : ∃ a, A.length = a := ⟨_, rfl⟩
  obtain ⟨a, ha⟩ := hobt
  simp only [ha] at hop hrd hcl hAl
  refine calls (n := 71) Tryd.func12 rfl rfl rfl ?_
  repeat (first | refine CW.seq ?_ | refine CW.block ?_ | refine CW.skip ?_ | refine CW.label ?_ | refine CW.exit ?_ | refine CW.condT rfl ?_ | refine CW.condF rfl ?_)
  refine CW.reg ?_
  refine WL.val rfl (run_assign) ?_
  refine WL.nil ?_
  repeat (first | refine CW.seq ?_ | refine CW.block ?_ | refine CW.skip ?_ | refine CW.label ?_ | refine CW.exit ?_ | refine CW.condT rfl ?_ | refine CW.condF rfl ?_)
  refine CW.reg ?_
  refine WL.val rfl (run_move) ?_
  refine WL.enter rfl (run_call en9 rfl rfl) (hop hg hs.own1) ?_
  rintro e w ⟨L1, rfl, hR1, hq⟩
  refine ⟨_, rfl, ?_⟩
  replace hs := hs.call1 hq
  refine WL.val rfl (run_move) ?_
  refine WL.val rfl (run_extract rfl rfl) ?_
  refine WL.val rfl (run_extract rfl rfl) ?_
  refine WL.val rfl (run_assign) ?_
  refine WL.val rfl (run_assign) ?_
  refine WL.nil ?_
  repeat (first | refine CW.seq ?_ | refine CW.block ?_ | refine CW.skip ?_ | refine CW.label ?_ | refine CW.exit ?_ | refine CW.condT rfl ?_ | refine CW.condF rfl ?_)
  refine CW.reg ?_
  refine WL.val rfl (run_move) ?_
  refine WL.val rfl (run_bF (run_neq rfl rfl) (by decide)) ?_
  refine WL.nil ?_
  repeat (first | refine CW.seq ?_ | refine CW.block ?_ | refine CW.skip ?_ | refine CW.label ?_ | refine CW.exit ?_)
  first | refine CW.condP rfl (fun h => ?_) (fun h => ?_) | refine CW.cond rfl (fun h => ?_) (fun h => ?_)
  · cases h
  repeat (first | refine CW.seq ?_ | refine CW.block ?_ | refine CW.skip ?_ | refine CW.label ?_ | refine CW.exit ?_ | refine CW.condT rfl ?_ | refine CW.condF rfl ?_)
  refine CW.reg ?_
  refine WL.val rfl (run_move) ?_
  refine WL.val rfl (run_move) ?_
  refine WL.val rfl (run_move) ?_
  refine WL.val rfl (run_lenSl Tryd.underlying34 rfl) ?_
  refine WL.val rfl (run_quoN (n := n) (m := 2) rfl rfl (by decide) (by omega)) ?_
  refine WL.enter rfl (run_call en16 rfl rfl) (hrd 0 (n / 2) (by omega) (by omega) hR1 hs.own1) ?_
  rintro e w ⟨v1, Lv1, L2, rfl, hu1, hR2, hq⟩
  refine ⟨_, rfl, ?_⟩
  replace hs := (hs.call1 hq).append_comm
  refine WL.val rfl (run_move) ?_
  refine WL.val rfl (run_extract rfl rfl) ?_
  refine WL.val rfl (run_extract rfl rfl) ?_
  refine WL.val rfl (run_assign) ?_
  refine WL.val rfl (run_assign) ?_
  refine WL.nil ?_
  rw [show 0 + min (n / 2) (n - 0) = n / 2 by omega] at hR2
  repeat (first | refine CW.seq ?_ | refine CW.block ?_ | refine CW.skip ?_ | refine CW.label ?_ | refine CW.exit ?_ | refine CW.condT rfl ?_ | refine CW.condF rfl ?_)
  refine CW.reg ?_
  refine WL.val rfl (run_move) ?_
  refine WL.val rfl (run_move) ?_
  refine WL.enter rfl (run_call en16 rfl rfl) (hrd (n / 2) 1099511627776 (by omega) (by omega) hR2 hs.own) ?_
  rintro e w ⟨v2, Lv2, L3, rfl, hu2, hR3, hq⟩
  refine ⟨_, rfl, ?_⟩
  replace hs := hs.call hq
  refine WL.val rfl (run_move) ?_
  refine WL.val rfl (run_extract rfl rfl) ?_
  refine WL.val rfl (run_extract rfl rfl) ?_
  refine WL.val rfl (run_assign) ?_
  refine WL.val rfl (run_assign) ?_
  refine WL.nil ?_
  replace hs := hs.perm perm_k2
  rw [show n / 2 + min 1099511627776 (n - n / 2) = n by omega] at hR3
  repeat (first | refine CW.seq ?_ | refine CW.block ?_ | refine CW.skip ?_ | refine CW.label ?_ | refine CW.exit ?_ | refine CW.condT rfl ?_ | refine CW.condF rfl ?_)
  refine CW.reg ?_
  refine WL.val rfl (run_move) ?_
  refine WL.val rfl (run_move) ?_
  refine WL.enter rfl (run_call en16 rfl rfl) (hrd n 1 (by omega) (by omega) hR3 hs.own) ?_
  rintro e w ⟨v3, Lv3, L4, rfl, hu3, hR4, hq⟩
  refine ⟨_, rfl, ?_⟩
  replace hs := hs.call hq
  refine WL.val rfl (run_move) ?_
  refine WL.val rfl (run_extract rfl rfl) ?_
  refine WL.val rfl (run_extract rfl rfl) ?_
  refine WL.val rfl (run_assign) ?_
  refine WL.val rfl (run_assign) ?_
  refine WL.nil ?_
  rw [show n + min 1 (n - n) = n by omega] at hR4
  have e3 : (x.drop n).take 1 = [] := by rw [List.drop_of_length_le (by omega)]; rfl
  simp only [e3] at hu3
  have e1 : (x.drop 0).take (n / 2) ++ (x.drop (n / 2)).take 1099511627776 = x := by
    rw [List.drop_zero, List.take_of_length_le (l := x.drop (n / 2)) (by rw [List.length_drop]; omega), List.take_append_drop]
  have hobt : ∃ y1, (x.drop 0).take (n / 2) = y1 := ⟨_, rfl⟩
  obtain ⟨y1, hy1⟩ := hobt
  have hobt : ∃ y2, (x.drop (n / 2)).take 1099511627776 = y2 := ⟨_, rfl⟩
  obtain ⟨y2, hy2⟩ := hobt
  have hl2 := congrArg List.length e1
  rw [List.length_append] at hl2
  rw [hy1] at hu1 e1 hl2
  rw [hy2] at hu2 e1 hl2
  replace hs := hs.perm perm_k2
  have hobt := hu3.form
  obtain ⟨a3, c3, rfl⟩ := hobt
  have hm1 : ∀ {w : World}, Step S (L4 ++ (Lv3 ++ (Lv2 ++ Lv1))) w0 w → Sl w 1 v1 y1.length (u8s y1) := fun hs => hu1.slW fun p hp => hs.has p (by simp [hp])
  have hm2 : ∀ {w : World}, Step S (L4 ++ (Lv3 ++ (Lv2 ++ Lv1))) w0 w → Sl w 1 v2 y2.length (u8s y2) := fun hs => hu2.slW fun p hp => hs.has p (by simp [hp])
  have hm0 : ∀ {w : World}, Step S (L4 ++ (Lv3 ++ (Lv2 ++ Lv1))) w0 w → Sl w 1 (.slice av n cv) x.length (u8s x) := fun hs => by rw [hn]; exact hsl hs
  repeat (first | refine CW.seq ?_ | refine CW.block ?_ | refine CW.skip ?_ | refine CW.label ?_ | refine CW.exit ?_ | refine CW.condT rfl ?_ | refine CW.condF rfl ?_)
  refine CW.reg ?_
  refine WL.val rfl (run_move) ?_
  refine WL.val rfl (run_bT (run_eql rfl rfl) (by rfl)) ?_
  refine WL.val rfl (run_move) ?_
  first | (refine WL.yes rfl rfl rfl ?_; refine WL.val rfl (run_move) ?_) | refine WL.no rfl rfl rfl (.inl rfl) ?_ | refine WL.no rfl rfl rfl (.inr rfl) ?_
  refine WL.yes rfl rfl rfl ?_
  refine WL.val rfl (run_bT (run_eql rfl rfl) (by rfl)) ?_
  first | refine WL.val rfl (run_pickT rfl) ?_ | refine WL.val rfl (run_pickF rfl) ?_
  refine WL.val rfl (run_move) ?_
  first | (refine WL.yes rfl rfl rfl ?_; refine WL.val rfl (run_move) ?_) | refine WL.no rfl rfl rfl (.inl rfl) ?_ | refine WL.no rfl rfl rfl (.inr rfl) ?_
  refine WL.yes rfl rfl rfl ?_
  refine WL.val rfl (run_bT (run_eql rfl rfl) (by rfl)) ?_
  first | refine WL.val rfl (run_pickT rfl) ?_ | refine WL.val rfl (run_pickF rfl) ?_
  refine WL.val rfl (run_move) ?_
  first | (refine WL.yes rfl rfl rfl ?_; refine WL.val rfl (run_move) ?_) | refine WL.no rfl rfl rfl (.inl rfl) ?_ | refine WL.no rfl rfl rfl (.inr rfl) ?_
  refine WL.yes rfl rfl rfl ?_
  refine WL.val rfl (run_toString Tryd.underlying34 Tryd.underlying9 Tryd.underlying5 rfl (hm1 hs)) ?_
  first | (refine WL.yes rfl rfl rfl ?_; refine WL.val rfl (run_move) ?_) | refine WL.no rfl rfl rfl (.inl rfl) ?_ | refine WL.no rfl rfl rfl (.inr rfl) ?_
  refine WL.yes rfl rfl rfl ?_
  refine WL.val rfl (run_toString Tryd.underlying34 Tryd.underlying9 Tryd.underlying5 rfl (hm2 hs)) ?_
  first | (refine WL.yes rfl rfl rfl ?_; refine WL.val rfl (run_strAdd rfl rfl (by first | omega | (simp; omega) | simp)) ?_) | refine WL.no rfl rfl rfl (.inl rfl) ?_ | refine WL.no rfl rfl rfl (.inr rfl) ?_
  first | (refine WL.yes rfl rfl rfl ?_; refine WL.val rfl (run_move) ?_) | refine WL.no rfl rfl rfl (.inl rfl) ?_ | refine WL.no rfl rfl rfl (.inr rfl) ?_
  refine WL.yes rfl rfl rfl ?_
  refine WL.val rfl (run_toString Tryd.underlying34 Tryd.underlying9 Tryd.underlying5 rfl (hm0 hs)) ?_
  refine WL.yes rfl rfl rfl ?_
  refine WL.val rfl (run_bT (run_strEq rfl rfl) (by rw [e1])) ?_
  first | refine WL.val rfl (run_pickT rfl) ?_ | refine WL.val rfl (run_pickF rfl) ?_
  refine WL.val rfl (run_move) ?_
  first | (refine WL.yes rfl rfl rfl ?_; refine WL.val rfl (run_move) ?_) | refine WL.no rfl rfl rfl (.inl rfl) ?_ | refine WL.no rfl rfl rfl (.inr rfl) ?_
  first | (refine WL.yes rfl rfl rfl ?_; refine WL.val rfl (run_lenSl Tryd.underlying34 rfl) ?_) | refine WL.no rfl rfl rfl (.inl rfl) ?_ | refine WL.no rfl rfl rfl (.inr rfl) ?_
  refine WL.yes rfl rfl rfl ?_
  refine WL.val rfl (run_bT (run_eql rfl rfl) (by rfl)) ?_
  first | refine WL.val rfl (run_pickT rfl) ?_ | refine WL.val rfl (run_pickF rfl) ?_
  refine WL.val rfl (run_move) ?_
  first | (refine WL.yes rfl rfl rfl ?_; refine WL.val rfl (run_move) ?_) | refine WL.no rfl rfl rfl (.inl rfl) ?_ | refine WL.no rfl rfl rfl (.inr rfl) ?_
  first | (refine WL.yes rfl rfl rfl ?_; refine WL.val rfl (run_move) ?_) | refine WL.no rfl rfl rfl (.inl rfl) ?_ | refine WL.no rfl rfl rfl (.inr rfl) ?_
  refine WL.yes rfl rfl rfl ?_
  refine WL.enter rfl (run_call en10 rfl rfl) (hcl n (by omega) hR4 hs.own) ?_
  rintro e w ⟨L5, rfl, hR5, hq⟩
  refine ⟨_, rfl, ?_⟩
  replace hs := hs.call hq
  refine WL.yes rfl rfl rfl ?_
  refine WL.val rfl (run_bT (run_eql rfl rfl) (by rfl)) ?_
  first | refine WL.val rfl (run_pickT rfl) ?_ | refine WL.val rfl (run_pickF rfl) ?_
  refine WL.val rfl (run_assign) ?_
  refine WL.nil ?_
  repeat (first | refine CW.seq ?_ | refine CW.block ?_ | refine CW.skip ?_ | refine CW.label ?_ | refine CW.exit ?_ | refine CW.condT rfl ?_ | refine CW.condF rfl ?_)
  refine CW.ret ?_
  refine fin_ret1 rfl ?_
  exact ⟨L5, rfl, hR5, hs.dropR⟩
end
end Go.Gx
