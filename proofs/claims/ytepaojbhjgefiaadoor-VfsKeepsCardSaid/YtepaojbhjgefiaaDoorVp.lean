/- path.Split, where path.Join is not there. -/
import Derived.Test.YtepaojbhjgefiaaDoorPClean6
import Derived.Test.YtepaojbhjgefiaaDoorVs3
import Derived.Lib.LastIndexByte
namespace Go.Gx
open Go.Proofs Go.RowKit
set_option linter.unusedVariables false
set_option linter.unusedSimpArgs false
set_option maxRecDepth 100000
/-- What Split tells. -/
def splitR (p : List UInt8) : List UInt8 × List UInt8 × Int :=
  if isCleanL p = false then ([], [], 31) else if partsL p = [] then ([], [], 32) else (joinL (partsL p).dropLast, (partsL p).getLastD [], 0)
theorem partsL_nil {s : List UInt8} (h : partsL s = []) : s = [] := by
  have := joinL_partsL s
  rw [h] at this
  exact this.symm
theorem clean_named {p : List UInt8} (h : isCleanL p = true) : Named (partsL p) ∧ (partsL p).length ≤ 32 := by
  simp only [isCleanL, Bool.and_eq_true, decide_eq_true_eq, List.all_eq_true] at h
  exact h
theorem named_clean {row : List (List UInt8)} (h : Named row) (hl : row.length ≤ 32) : isCleanL (joinL row) = true ∧ partsL (joinL row) = row := by
  have e := partsL_joinL h
  refine ⟨?_, e⟩
  simp only [isCleanL, Bool.and_eq_true, decide_eq_true_eq, List.all_eq_true, e]
  exact ⟨h, hl⟩
theorem clean_len {p : List UInt8} (h : isCleanL p = true) : p.length ≤ 2080 := by
  have hobt := clean_named h
  obtain ⟨h1, h2⟩ := hobt
  have h3 := join_len (partsL p)
  have h4 := named_join h1
  rw [joinL_partsL] at h3
  omega
theorem last_none {p : List UInt8} (h : 47 ∉ p) : Lib.lastIndexByte ⟨⟨p⟩⟩ 47 = -1 := by
  rcases Lib.lastIndexByte_spec ⟨⟨p⟩⟩ 47 with h1 | ⟨i, h1, h2, h3, h4⟩
  · exact h1.1
  · exfalso
    have hi : i < p.length := h1
    apply h
    have e : (ByteArray.mk ⟨p⟩).data[i]! = p[i] := by
      show (⟨p⟩ : Array UInt8)[i]! = _
      rw [getElem!_pos (⟨p⟩ : Array UInt8) i hi]
      simp
    rw [e] at h3
    have : p[i] = 47 := UInt8.toNat_inj.1 (by simpa using (show p[i].toNat = 47 by omega))
    rw [← this]
    exact List.getElem_mem hi
theorem last_some {a l : List UInt8} (h : 47 ∉ l) : Lib.lastIndexByte ⟨⟨a ++ 47 :: l⟩⟩ 47 = (a.length : Nat) := by
  have key : ∀ j, (hj : j < (a ++ 47 :: l).length) → (ByteArray.mk ⟨a ++ 47 :: l⟩).data[j]! = (a ++ 47 :: l)[j] := fun j hj => by
    show (⟨a ++ 47 :: l⟩ : Array UInt8)[j]! = _
    rw [getElem!_pos (⟨a ++ 47 :: l⟩ : Array UInt8) j hj]
    simp
  have hal : a.length < (a ++ 47 :: l).length := by simp
  have hat : (a ++ 47 :: l)[a.length] = 47 := by simp
  rcases Lib.lastIndexByte_spec ⟨⟨a ++ 47 :: l⟩⟩ 47 with h1 | ⟨i, h1, h2, h3, h4⟩
  · exfalso
    have := h1.2 a.length hal
    rw [key _ hal, hat] at this
    exact this rfl
  · have hi : i < (a ++ 47 :: l).length := h1
    rw [h2]
    congr 1
    rcases Nat.lt_trichotomy i a.length with hlt | he | hgt
    · exfalso
      have := h4 a.length hlt hal
      rw [key _ hal, hat] at this
      exact this rfl
    · exact he
    · exfalso
      rw [key _ hi] at h3
      have h5 : (a ++ 47 :: l)[i] = 47 := UInt8.toNat_inj.1 (by simpa using (show ((a ++ 47 :: l)[i]).toNat = 47 by omega))
      have hobt : ∃ k, i = a.length + (k + 1) := ⟨i - a.length - 1, by omega⟩
      obtain ⟨k, hk⟩ := hobt
      subst hk
      have h6 : (a ++ 47 :: l)[a.length + (k + 1)]? = some 47 := by rw [List.getElem?_eq_getElem hi, h5]
      rw [List.getElem?_append_right (by omega), Nat.add_sub_cancel_left, List.getElem?_cons_succ] at h6
      exact h (List.mem_of_getElem? h6)
section
variable {P : Program} {f : Slots} {w : World} {d : Option Tmp} {ty : TypeId} {pos : String} {af : Array Edge} {x y : Operand} {ats : Array TypeId} {k : IntKind} {a b : Int}
theorem run_maxL (hx : ev f x = .int k a) (hy : ev f y = .int k b) (h : b ≤ a) : (execOp (ev f) ⟨d, .call { callee := .builtin .max, args := #[x, y], argTypes := ats }, ty, pos, af, none⟩).run P w = .ok (.value (.int k a)) w := by
  rw [run_max hx hy, if_neg (by omega)]
theorem run_maxR (hx : ev f x = .int k a) (hy : ev f y = .int k b) (h : a < b) : (execOp (ev f) ⟨d, .call { callee := .builtin .max, args := #[x, y], argTypes := ats }, ty, pos, af, none⟩).run P w = .ok (.value (.int k b)) w := by
  rw [run_max hx hy, if_pos (by omega)]
end
theorem lastB_spec {p : List UInt8} {k : Int} (w0 : World) (hp : p.length ≤ 4096) (hk : Lib.lastIndexByte ⟨⟨p⟩⟩ 47 = k) : Calls Tryd.prog 57 #[str p, .int .u8 47] w0 (Ret0 (.int .i64 k) w0) := by
  refine (Tryd.strings_LastIndexByte ⟨⟨p⟩⟩ 47 (by show p.length < _; omega) w0).mono fun e w' ⟨h1, h2⟩ => ?_
  subst h2
  exact ⟨by rw [h1, hk], Step.refl _⟩
theorem split3 {v : List UInt8 × List UInt8 × Int} {a b : List UInt8} {c : Int} {w0 w : World} (h : v = (a, b, c)) (hs : Step [] [] w0 w) : Ret0 (.tuple #[str v.1, str v.2.1, .int .i64 v.2.2]) w0 (.returned (.tuple #[str a, str b, .int .i64 c])) w := by
  subst h
  exact ⟨rfl, hs⟩
theorem splitP_spec {p : List UInt8} (w0 : World) (hg : Gl w0) (hs1 : p.length ≤ 9223372036854775807) : Calls Tryd.prog 49 #[str p] w0 (Ret0 (.tuple #[str (splitR p).1, str (splitR p).2.1, .int .i64 (splitR p).2.2]) w0) := by
  have hs : Step [] [] w0 w0 := Step.refl w0
  have hic := isClean_spec (s := p) w0 hg hs1
  by_cases hc : isCleanL p = false
  · have e : splitR p = ([], [], 31) := by rw [splitR, if_pos hc]
    rw [hc] at hic
    refine calls (n := 23) Tryd.func49 rfl rfl rfl ?_
    repeat (first | refine CW.seq ?_ | refine CW.block ?_ | refine CW.skip ?_ | refine CW.label ?_ | refine CW.exit ?_ | refine CW.condT rfl ?_ | refine CW.condF rfl ?_)
    refine CW.reg ?_
    refine WL.val rfl (run_assign) ?_
    refine WL.val rfl (run_assign) ?_
    refine WL.val rfl (run_assign) ?_
    refine WL.nil ?_
    repeat (first | refine CW.seq ?_ | refine CW.block ?_ | refine CW.skip ?_ | refine CW.label ?_ | refine CW.exit ?_ | refine CW.condT rfl ?_ | refine CW.condF rfl ?_)
    refine CW.reg ?_
    refine WL.val rfl (run_move) ?_
    refine WL.enter rfl (run_call en61 rfl rfl) (hic) ?_
    rintro e w ⟨rfl, hq⟩
    refine ⟨_, rfl, ?_⟩
    replace hs := hs.callE hq
    first | refine WL.val rfl (run_notB rfl) ?_ | refine WL.val rfl (run_not rfl) ?_
    refine WL.val rfl (run_assign) ?_
    refine WL.nil ?_
    repeat (first | refine CW.seq ?_ | refine CW.block ?_ | refine CW.skip ?_ | refine CW.label ?_ | refine CW.exit ?_ | refine CW.condT rfl ?_ | refine CW.condF rfl ?_)
    refine CW.reg ?_
    refine WL.val rfl (run_assign) ?_
    refine WL.val rfl (run_assign) ?_
    refine WL.val rfl (run_assign) ?_
    refine WL.nil ?_
    repeat (first | refine CW.seq ?_ | refine CW.block ?_ | refine CW.skip ?_ | refine CW.label ?_ | refine CW.exit ?_ | refine CW.condT rfl ?_ | refine CW.condF rfl ?_)
    refine CW.ret ?_
    refine fin_ret3 rfl ?_
    exact split3 e hs
  · have hc' : isCleanL p = true := by simpa using hc
    rw [hc'] at hic
    have hobt := clean_named hc'
    obtain ⟨hnm, hl⟩ := hobt
    have hpl := clean_len hc'
    by_cases h0 : partsL p = []
    · have e : splitR p = ([], [], 32) := by rw [splitR, if_neg hc, if_pos h0]
      have hp0 := partsL_nil h0
      refine calls (n := 23) Tryd.func49 rfl rfl rfl ?_
      repeat (first | refine CW.seq ?_ | refine CW.block ?_ | refine CW.skip ?_ | refine CW.label ?_ | refine CW.exit ?_ | refine CW.condT rfl ?_ | refine CW.condF rfl ?_)
      refine CW.reg ?_
      refine WL.val rfl (run_assign) ?_
      refine WL.val rfl (run_assign) ?_
      refine WL.val rfl (run_assign) ?_
      refine WL.nil ?_
      repeat (first | refine CW.seq ?_ | refine CW.block ?_ | refine CW.skip ?_ | refine CW.label ?_ | refine CW.exit ?_ | refine CW.condT rfl ?_ | refine CW.condF rfl ?_)
      refine CW.reg ?_
      refine WL.val rfl (run_move) ?_
      refine WL.enter rfl (run_call en61 rfl rfl) (hic) ?_
      rintro e w ⟨rfl, hq⟩
      refine ⟨_, rfl, ?_⟩
      replace hs := hs.callE hq
      first | refine WL.val rfl (run_notB rfl) ?_ | refine WL.val rfl (run_not rfl) ?_
      refine WL.val rfl (run_assign) ?_
      refine WL.nil ?_
      repeat (first | refine CW.seq ?_ | refine CW.block ?_ | refine CW.skip ?_ | refine CW.label ?_ | refine CW.exit ?_ | refine CW.condT rfl ?_ | refine CW.condF rfl ?_)
      refine CW.reg ?_
      refine WL.val rfl (run_move) ?_
      refine WL.val rfl (run_bT (run_strEq rfl rfl) (by exact hp0)) ?_
      refine WL.val rfl (run_assign) ?_
      refine WL.nil ?_
      repeat (first | refine CW.seq ?_ | refine CW.block ?_ | refine CW.skip ?_ | refine CW.label ?_ | refine CW.exit ?_ | refine CW.condT rfl ?_ | refine CW.condF rfl ?_)
      refine CW.reg ?_
      refine WL.val rfl (run_assign) ?_
      refine WL.val rfl (run_assign) ?_
      refine WL.val rfl (run_assign) ?_
      refine WL.nil ?_
      repeat (first | refine CW.seq ?_ | refine CW.block ?_ | refine CW.skip ?_ | refine CW.label ?_ | refine CW.exit ?_ | refine CW.condT rfl ?_ | refine CW.condF rfl ?_)
      refine CW.ret ?_
      refine fin_ret3 rfl ?_
      exact split3 e hs
    · have hp0 : ¬ p = [] := fun e => h0 (by rw [e]; rfl)
      have hobt : ∃ n, (partsL p).getLast h0 = n := ⟨_, rfl⟩
      obtain ⟨n, hn⟩ := hobt
      have hdl : partsL p = (partsL p).dropLast ++ [n] := by rw [← hn]; exact (List.dropLast_concat_getLast h0).symm
      have hobt : ∃ r, (partsL p).dropLast = r := ⟨_, rfl⟩
      obtain ⟨r, hr⟩ := hobt
      rw [hr] at hdl
      have e : splitR p = (joinL r, n, 0) := by
        rw [splitR, if_neg hc, if_neg h0, hr]
        congr 2
        rw [hdl]; simp
      have hnn := hnm n (by rw [hdl]; simp)
      have hns := isName_slash hnn
      have hpj : p = joinL (r ++ [n]) := by rw [← hdl, joinL_partsL]
      by_cases hr0 : r = []
      · have hpn : p = n := by rw [hpj, hr0]; exact joinL_one n
        have hla : Lib.lastIndexByte ⟨⟨p⟩⟩ 47 = -1 := last_none (by rw [hpn]; exact hns)
        refine calls (n := 23) Tryd.func49 rfl rfl rfl ?_
        repeat (first | refine CW.seq ?_ | refine CW.block ?_ | refine CW.skip ?_ | refine CW.label ?_ | refine CW.exit ?_ | refine CW.condT rfl ?_ | refine CW.condF rfl ?_)
        refine CW.reg ?_
        refine WL.val rfl (run_assign) ?_
        refine WL.val rfl (run_assign) ?_
        refine WL.val rfl (run_assign) ?_
        refine WL.nil ?_
        repeat (first | refine CW.seq ?_ | refine CW.block ?_ | refine CW.skip ?_ | refine CW.label ?_ | refine CW.exit ?_ | refine CW.condT rfl ?_ | refine CW.condF rfl ?_)
        refine CW.reg ?_
        refine WL.val rfl (run_move) ?_
        refine WL.enter rfl (run_call en61 rfl rfl) (hic) ?_
        rintro e w ⟨rfl, hq⟩
        refine ⟨_, rfl, ?_⟩
        replace hs := hs.callE hq
        first | refine WL.val rfl (run_notB rfl) ?_ | refine WL.val rfl (run_not rfl) ?_
        refine WL.val rfl (run_assign) ?_
        refine WL.nil ?_
        repeat (first | refine CW.seq ?_ | refine CW.block ?_ | refine CW.skip ?_ | refine CW.label ?_ | refine CW.exit ?_ | refine CW.condT rfl ?_ | refine CW.condF rfl ?_)
        refine CW.reg ?_
        refine WL.val rfl (run_move) ?_
        refine WL.val rfl (run_bF (run_strEq rfl rfl) (by exact hp0)) ?_
        refine WL.val rfl (run_assign) ?_
        refine WL.nil ?_
        repeat (first | refine CW.seq ?_ | refine CW.block ?_ | refine CW.skip ?_ | refine CW.label ?_ | refine CW.exit ?_ | refine CW.condT rfl ?_ | refine CW.condF rfl ?_)
        refine CW.reg ?_
        refine WL.val rfl (run_move) ?_
        refine WL.enter rfl (run_call en57 rfl rfl) (lastB_spec _ (by omega) hla) ?_
        rintro e w ⟨rfl, hq⟩
        refine ⟨_, rfl, ?_⟩
        replace hs := hs.callE hq
        refine WL.val rfl (run_assign) ?_
        refine WL.nil ?_
        repeat (first | refine CW.seq ?_ | refine CW.block ?_ | refine CW.skip ?_ | refine CW.label ?_ | refine CW.exit ?_ | refine CW.condT rfl ?_ | refine CW.condF rfl ?_)
        refine CW.quiet mixedP (by kernel_rfl) hs ?_
        refine QL.val rfl (fun w hs => run_move) ?_
        refine QL.val rfl (fun w hs => run_move) ?_
        refine QL.val rfl (fun w hs => run_maxR rfl rfl (by decide)) ?_
        refine QL.val rfl (fun w hs => run_sliceStr (lo := 0) (hi := 0) Tryd.underlying9 rfl rfl rfl (Nat.zero_le _) (Nat.zero_le _)) ?_
        refine QL.val rfl (fun w hs => run_move) ?_
        refine QL.val rfl (fun w hs => run_move) ?_
        refine QL.val rfl (fun w hs => run_add (c := 0) rfl rfl (by omega) (by omega)) ?_
        refine QL.val rfl (fun w hs => run_sliceStr (lo := 0) (hi := p.length) Tryd.underlying9 rfl rfl rfl (Nat.zero_le _) (Nat.le_refl _)) ?_
        refine QL.val rfl (fun w hs => run_assign) ?_
        refine QL.val rfl (fun w hs => run_assign) ?_
        refine QL.val rfl (fun w hs => run_assign) ?_
        refine QL.nil (fun w hs => ?_)
        repeat (first | refine CW.seq ?_ | refine CW.block ?_ | refine CW.skip ?_ | refine CW.label ?_ | refine CW.exit ?_ | refine CW.condT rfl ?_ | refine CW.condF rfl ?_)
        refine CW.ret ?_
        refine fin_ret3 rfl ?_
        refine split3 (a := (p.take 0).drop 0) (b := (p.take p.length).drop 0) ?_ hs
        rw [e, hr0, List.take_length, hpn]
        rfl
      · have hpa : p = joinL r ++ 47 :: n := by
          rw [hpj, joinL_snoc, if_pos (List.length_pos_iff.2 hr0), List.append_assoc]
          rfl
        have hla : Lib.lastIndexByte ⟨⟨p⟩⟩ 47 = ((joinL r).length : Nat) := by rw [hpa]; exact last_some hns
        have hjl : (joinL r).length + 1 + n.length = p.length := by rw [hpa]; simp; omega
        refine calls (n := 23) Tryd.func49 rfl rfl rfl ?_
        repeat (first | refine CW.seq ?_ | refine CW.block ?_ | refine CW.skip ?_ | refine CW.label ?_ | refine CW.exit ?_ | refine CW.condT rfl ?_ | refine CW.condF rfl ?_)
        refine CW.reg ?_
        refine WL.val rfl (run_assign) ?_
        refine WL.val rfl (run_assign) ?_
        refine WL.val rfl (run_assign) ?_
        refine WL.nil ?_
        repeat (first | refine CW.seq ?_ | refine CW.block ?_ | refine CW.skip ?_ | refine CW.label ?_ | refine CW.exit ?_ | refine CW.condT rfl ?_ | refine CW.condF rfl ?_)
        refine CW.reg ?_
        refine WL.val rfl (run_move) ?_
        refine WL.enter rfl (run_call en61 rfl rfl) (hic) ?_
        rintro e w ⟨rfl, hq⟩
        refine ⟨_, rfl, ?_⟩
        replace hs := hs.callE hq
        first | refine WL.val rfl (run_notB rfl) ?_ | refine WL.val rfl (run_not rfl) ?_
        refine WL.val rfl (run_assign) ?_
        refine WL.nil ?_
        repeat (first | refine CW.seq ?_ | refine CW.block ?_ | refine CW.skip ?_ | refine CW.label ?_ | refine CW.exit ?_ | refine CW.condT rfl ?_ | refine CW.condF rfl ?_)
        refine CW.reg ?_
        refine WL.val rfl (run_move) ?_
        refine WL.val rfl (run_bF (run_strEq rfl rfl) (by exact hp0)) ?_
        refine WL.val rfl (run_assign) ?_
        refine WL.nil ?_
        repeat (first | refine CW.seq ?_ | refine CW.block ?_ | refine CW.skip ?_ | refine CW.label ?_ | refine CW.exit ?_ | refine CW.condT rfl ?_ | refine CW.condF rfl ?_)
        refine CW.reg ?_
        refine WL.val rfl (run_move) ?_
        refine WL.enter rfl (run_call en57 rfl rfl) (lastB_spec _ (by omega) hla) ?_
        rintro e w ⟨rfl, hq⟩
        refine ⟨_, rfl, ?_⟩
        replace hs := hs.callE hq
        refine WL.val rfl (run_assign) ?_
        refine WL.nil ?_
        repeat (first | refine CW.seq ?_ | refine CW.block ?_ | refine CW.skip ?_ | refine CW.label ?_ | refine CW.exit ?_ | refine CW.condT rfl ?_ | refine CW.condF rfl ?_)
        refine CW.quiet mixedP (by kernel_rfl) hs ?_
        refine QL.val rfl (fun w hs => run_move) ?_
        refine QL.val rfl (fun w hs => run_move) ?_
        refine QL.val rfl (fun w hs => run_maxL rfl rfl (by omega)) ?_
        refine QL.val rfl (fun w hs => run_sliceStr (lo := 0) (hi := (joinL r).length) Tryd.underlying9 rfl rfl rfl (Nat.zero_le _) (by omega)) ?_
        refine QL.val rfl (fun w hs => run_move) ?_
        refine QL.val rfl (fun w hs => run_move) ?_
        refine QL.val rfl (fun w hs => run_add (c := (((joinL r).length + 1 : Nat) : Int)) rfl rfl (by omega) (by omega)) ?_
        refine QL.val rfl (fun w hs => run_sliceStr (lo := (joinL r).length + 1) (hi := p.length) Tryd.underlying9 rfl rfl rfl (by omega) (Nat.le_refl _)) ?_
        refine QL.val rfl (fun w hs => run_assign) ?_
        refine QL.val rfl (fun w hs => run_assign) ?_
        refine QL.val rfl (fun w hs => run_assign) ?_
        refine QL.nil (fun w hs => ?_)
        repeat (first | refine CW.seq ?_ | refine CW.block ?_ | refine CW.skip ?_ | refine CW.label ?_ | refine CW.exit ?_ | refine CW.condT rfl ?_ | refine CW.condF rfl ?_)
        refine CW.ret ?_
        refine fin_ret3 rfl ?_
        refine split3 (a := (p.take (joinL r).length).drop 0) (b := (p.take p.length).drop ((joinL r).length + 1)) ?_ hs
        rw [e, List.take_length, hpa]
        simp
end Go.Gx
