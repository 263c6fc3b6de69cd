/- NodeTurns' walk. -/
import Derived.Test.YtkdmkjlchlcebaaL2
namespace Go.Gx
open Go.Proofs
set_option linter.unusedVariables false
set_option linter.unusedSimpArgs false
set_option maxRecDepth 100000

def rnd (a : Int) (n : Nat) : Nat := (a % (n : Int)).toNat
theorem rnd_lt {a : Int} {n : Nat} (h : 0 < n) : rnd a n < n := by
  have h1 := Int.emod_nonneg a (show (n : Int) ≠ 0 by omega)
  have h2 := Int.emod_lt_of_pos a (show (0 : Int) < n by omega)
  unfold rnd
  omega
theorem tmod_neg {a : Int} {n : Nat} (h : 0 < n) (hk : a.tmod n < 0) : a.tmod n + n = (rnd a n : Nat) := by
  have h1 := Int.emod_nonneg a (show (n : Int) ≠ 0 by omega)
  have h2 := Int.emod_lt_of_pos a (show (0 : Int) < n by omega)
  have e : a.tmod n + n * a.tdiv n = a := Int.tmod_add_mul_tdiv a n
  have hlo : -(n : Int) < a.tmod n := by
    have := Int.lt_tmod_of_pos a (show (0 : Int) < n by omega)
    omega
  have e2 : a % n = a.tmod n + n := by
    conv => lhs; rw [← e]
    rw [Int.add_mul_emod_self_left, ← Int.add_emod_right, Int.emod_eq_of_lt (by omega) (by omega)]
  unfold rnd
  omega
theorem tmod_pos {a : Int} {n : Nat} (h : 0 < n) (hk : ¬ a.tmod n < 0) : a.tmod n = (rnd a n : Nat) := by
  have h1 := Int.emod_nonneg a (show (n : Int) ≠ 0 by omega)
  have e : a.tmod n + n * a.tdiv n = a := Int.tmod_add_mul_tdiv a n
  have hlt := Int.tmod_lt_of_pos a (show (0 : Int) < n by omega)
  have e2 : a % n = a.tmod n := by
    conv => lhs; rw [← e]
    rw [Int.add_mul_emod_self_left, Int.emod_eq_of_lt (by omega) (by omega)]
  unfold rnd
  omega

theorem round_spec {a : Int} {n : Nat} (w : World) (hn : 0 < n) (hb : n ≤ 4611686018427387904) : Calls Try.prog 23 #[.int .i64 a, .int .i64 n] w (Ret0 (.int .i64 (rnd a n : Nat)) w) := by
  have hs : Step [] [] w w := Step.refl w
  have hlt := rnd_lt (a := a) hn
  by_cases hk : a.tmod n < 0
  · have e := tmod_neg hn hk
    refine calls (n := 15) Try.func23 rfl rfl rfl ?_
    repeat (first | refine CW.seq ?_ | refine CW.block ?_ | refine CW.skip ?_ | refine CW.label ?_ | refine CW.exit ?_ | refine CW.condT rfl ?_ | refine CW.condF rfl ?_)
    refine CW.reg ?_
    refine WL.val rfl (run_assign) ?_
    refine WL.nil ?_
    repeat (first | refine CW.seq ?_ | refine CW.block ?_ | refine CW.skip ?_ | refine CW.label ?_ | refine CW.exit ?_ | refine CW.condT rfl ?_ | refine CW.condF rfl ?_)
    refine CW.reg ?_
    refine WL.val rfl (run_move) ?_
    refine WL.val rfl (run_move) ?_
    refine WL.val rfl (run_rem rfl rfl (by omega)) ?_
    refine WL.val rfl (run_assign) ?_
    refine WL.nil ?_
    repeat (first | refine CW.seq ?_ | refine CW.block ?_ | refine CW.skip ?_ | refine CW.label ?_ | refine CW.exit ?_ | refine CW.condT rfl ?_ | refine CW.condF rfl ?_)
    refine CW.reg ?_
    refine WL.val rfl (run_move) ?_
    refine WL.val rfl (run_bT (run_lss rfl rfl) (by exact hk)) ?_
    refine WL.nil ?_
    repeat (first | refine CW.seq ?_ | refine CW.block ?_ | refine CW.skip ?_ | refine CW.label ?_ | refine CW.exit ?_ | refine CW.condT rfl ?_ | refine CW.condF rfl ?_)
    refine CW.reg ?_
    refine WL.val rfl (run_move) ?_
    refine WL.val rfl (run_move) ?_
    refine WL.val rfl (run_add (c := ((rnd a n : Nat) : Int)) rfl rfl (by omega) (by omega)) ?_
    refine WL.val rfl (run_assign) ?_
    refine WL.nil ?_
    repeat (first | refine CW.seq ?_ | refine CW.block ?_ | refine CW.skip ?_ | refine CW.label ?_ | refine CW.exit ?_ | refine CW.condT rfl ?_ | refine CW.condF rfl ?_)
    refine CW.reg ?_
    refine WL.val rfl (run_move) ?_
    refine WL.val rfl (run_assign) ?_
    refine WL.nil ?_
    repeat (first | refine CW.seq ?_ | refine CW.block ?_ | refine CW.skip ?_ | refine CW.label ?_ | refine CW.exit ?_ | refine CW.condT rfl ?_ | refine CW.condF rfl ?_)
    refine CW.ret ?_
    refine fin_ret1 rfl ?_
    exact ⟨rfl, hs⟩
  · have e := tmod_pos hn hk
    refine calls (n := 15) Try.func23 rfl rfl rfl ?_
    repeat (first | refine CW.seq ?_ | refine CW.block ?_ | refine CW.skip ?_ | refine CW.label ?_ | refine CW.exit ?_ | refine CW.condT rfl ?_ | refine CW.condF rfl ?_)
    refine CW.reg ?_
    refine WL.val rfl (run_assign) ?_
    refine WL.nil ?_
    repeat (first | refine CW.seq ?_ | refine CW.block ?_ | refine CW.skip ?_ | refine CW.label ?_ | refine CW.exit ?_ | refine CW.condT rfl ?_ | refine CW.condF rfl ?_)
    refine CW.reg ?_
    refine WL.val rfl (run_move) ?_
    refine WL.val rfl (run_move) ?_
    refine WL.val rfl (run_rem rfl rfl (by omega)) ?_
    refine WL.val rfl (run_assign) ?_
    refine WL.nil ?_
    repeat (first | refine CW.seq ?_ | refine CW.block ?_ | refine CW.skip ?_ | refine CW.label ?_ | refine CW.exit ?_ | refine CW.condT rfl ?_ | refine CW.condF rfl ?_)
    refine CW.reg ?_
    refine WL.val rfl (run_move) ?_
    refine WL.val rfl (run_bF (run_lss rfl rfl) (by exact hk)) ?_
    refine WL.nil ?_
    repeat (first | refine CW.seq ?_ | refine CW.block ?_ | refine CW.skip ?_ | refine CW.label ?_ | refine CW.exit ?_ | refine CW.condT rfl ?_ | refine CW.condF rfl ?_)
    refine CW.reg ?_
    refine WL.val rfl (run_move) ?_
    refine WL.val rfl (run_assign) ?_
    refine WL.nil ?_
    repeat (first | refine CW.seq ?_ | refine CW.block ?_ | refine CW.skip ?_ | refine CW.label ?_ | refine CW.exit ?_ | refine CW.condT rfl ?_ | refine CW.condF rfl ?_)
    refine CW.ret ?_
    refine fin_ret1 rfl ?_
    exact ⟨by rw [← e]; rfl, hs⟩

theorem Sl.cut {w : World} {sz b off n lo hi m : Nat} {cs : List Value} (hat : At w b off cs) (hl : cs.length = n * sz) (h1 : lo ≤ hi) (h2 : hi ≤ n) (h3 : hi ≤ m) : Sl w sz (cutSl sz b off lo hi m) (hi - lo) ((cs.take (hi * sz)).drop (lo * sz)) := by
  have hle : hi * sz ≤ n * sz := Nat.mul_le_mul_right _ h2
  have hll : lo * sz ≤ hi * sz := Nat.mul_le_mul_right _ h1
  unfold cutSl
  refine .mk ?_ ?_
  · rw [List.length_drop, List.length_take, hl, Nat.min_eq_left hle, Nat.sub_mul]
  · split
    · have : hi = lo := by omega
      subst this
      rw [List.drop_take]
      simp
      exact At.nil
    · exact (hat.take (hi * sz)).drop (lo * sz)

theorem enc_len {l : List Ent} (ho : Oks l) (hc : checkE l = 0) : (encB l).length ≤ 1000000 := by
  have hlen : l.length ≤ 1024 := by
    unfold checkE at hc
    split at hc
    · cases hc
    · omega
  have herr : errE [] l = 0 := by
    unfold checkE at hc
    rwa [if_neg (by omega)] at hc
  have h1 := encB_len ho (fun x hx => isName_len (errE_ok l [] herr x hx).2)
  have h2 := formB_len 1
  have h3 := formB_len l.length
  simp only [encB, List.length_append]
  omega

theorem turns_spec {v u : Value} {l : List Ent} {ins : List UInt8} {at_ del : Int} (w0 : World) (hl : Es w0 v l) (hcap : Room v) (hu : Sl w0 1 u ins.length (u8s ins)) (hil : ins.length ≤ 1048576) (h3 : -9223372036854775808 ≤ at_ ∧ at_ ≤ 9223372036854775807) (h4 : -9223372036854775808 ≤ del ∧ del ≤ 9223372036854775807) : Calls Try.prog 5 #[v, .int .i64 at_, .int .i64 del, u] w0 fun e w' => e = .returned (.bool true) ∧ Step [] [] w0 w' := by
  have hs : Step [] [] w0 w0 := Step.refl w0
  by_cases hc : checkE l = 0
  · refine calls (n := 57) Try.func5 rfl rfl rfl ?_
    repeat (first | refine CW.seq ?_ | refine CW.block ?_ | refine CW.skip ?_ | refine CW.label ?_ | refine CW.exit ?_ | refine CW.condT rfl ?_ | refine CW.condF rfl ?_)
    refine CW.reg ?_
    refine WL.val rfl (run_assign) ?_
    refine WL.nil ?_
    repeat (first | refine CW.seq ?_ | refine CW.block ?_ | refine CW.skip ?_ | refine CW.label ?_ | refine CW.exit ?_ | refine CW.condT rfl ?_ | refine CW.condF rfl ?_)
    refine CW.reg ?_
    refine WL.enter rfl (run_call en11 rfl rfl) (known_spec _) ?_
    rintro e w ⟨rfl, hq⟩
    refine ⟨_, rfl, ?_⟩
    replace hs := hs.callE hq
    first | refine WL.val rfl (run_notB rfl) ?_ | refine WL.val rfl (run_not rfl) ?_
    refine WL.nil ?_
    repeat (first | refine CW.seq ?_ | refine CW.block ?_ | refine CW.skip ?_ | refine CW.label ?_ | refine CW.exit ?_ | refine CW.condT rfl ?_ | refine CW.condF rfl ?_)
    refine CW.reg ?_
    refine WL.val rfl (run_move) ?_
    refine WL.enter rfl (run_call en17 rfl rfl) (encodeR_ok _ (hl.step0 hs) hcap hc) ?_
    rintro e w ⟨p, Lp, rfl, hp, hq⟩
    refine ⟨_, rfl, ?_⟩
    replace hs := (hs.call0 hq).append_comm
    refine WL.val rfl (run_move) ?_
    refine WL.val rfl (run_extract rfl rfl) ?_
    refine WL.val rfl (run_extract rfl rfl) ?_
    refine WL.val rfl (run_assign) ?_
    refine WL.val rfl (run_assign) ?_
    refine WL.nil ?_
    generalize hbs : encB l = bs at hp
    have hl1 : (u8s bs).length = bs.length * 1 := by rw [u8s_len, Nat.mul_one]
    have hb0 : 0 < bs.length := by rw [← hbs]; simp [encB, formB]
    have hbl : bs.length ≤ 1000000 := by
      rw [← hbs]
      exact enc_len hl.2.1 hc
    obtain ⟨hxl, ⟨_, h0, _⟩ | ⟨b0, cap, more, rfl, rfl, hcp⟩⟩ := hp
    · omega
    replace hs : Step [] [(b0, blk 5 (u8s bs ++ more))] w0 w := hs
    have hcp' : bs.length ≤ cap := by
      rw [List.length_append, u8s_len, Nat.mul_one] at hcp
      omega
    repeat (first | refine CW.seq ?_ | refine CW.block ?_ | refine CW.skip ?_ | refine CW.label ?_ | refine CW.exit ?_ | refine CW.condT rfl ?_ | refine CW.condF rfl ?_)
    refine CW.reg ?_
    refine WL.val rfl (run_move) ?_
    refine WL.val rfl (run_bF (run_neq rfl rfl) (by decide)) ?_
    refine WL.nil ?_
    have hr1 := rnd_lt (a := at_) (n := bs.length + 1) (by omega)
    have hr2 := rnd_lt (a := del) (n := 9) (by omega)
    repeat (first | refine CW.seq ?_ | refine CW.block ?_ | refine CW.skip ?_ | refine CW.label ?_ | refine CW.exit ?_ | refine CW.condT rfl ?_ | refine CW.condF rfl ?_)
    refine CW.reg ?_
    refine WL.val rfl (run_move) ?_
    refine WL.val rfl (run_move) ?_
    refine WL.val rfl (run_lenSl Try.underlying29 rfl) ?_
    refine WL.val rfl (run_add (c := ((bs.length + 1 : Nat) : Int)) rfl rfl (by omega) (by omega)) ?_
    refine WL.enter rfl (run_call en23 rfl rfl) (round_spec (n := bs.length + 1) _ (by omega) (by omega)) ?_
    rintro e w ⟨rfl, hq⟩
    refine ⟨_, rfl, ?_⟩
    replace hs := hs.callE hq
    refine WL.val rfl (run_assign) ?_
    refine WL.nil ?_
    repeat (first | refine CW.seq ?_ | refine CW.block ?_ | refine CW.skip ?_ | refine CW.label ?_ | refine CW.exit ?_ | refine CW.condT rfl ?_ | refine CW.condF rfl ?_)
    refine CW.reg ?_
    refine WL.val rfl (run_move) ?_
    refine WL.enter rfl (run_call en23 rfl rfl) (round_spec (n := 9) _ (by omega) (by omega)) ?_
    rintro e w ⟨rfl, hq⟩
    refine ⟨_, rfl, ?_⟩
    replace hs := hs.callE hq
    refine WL.val rfl (run_assign) ?_
    refine WL.nil ?_
    generalize rnd at_ (bs.length + 1) = k at *
    generalize rnd del 9 = n at *
    have hat : ∀ {w : World} {L : List (Nat × Obj)}, Step [] ((b0, blk 5 (u8s bs ++ more)) :: L) w0 w → At w b0 0 (u8s bs) := fun hs => (At.of_blk hs.hd).left
    by_cases hn : n > bs.length - k
    · have hobt : ∃ n', n' = bs.length - k := ⟨_, rfl⟩
      obtain ⟨n', hn'⟩ := hobt
      repeat (first | refine CW.seq ?_ | refine CW.block ?_ | refine CW.skip ?_ | refine CW.label ?_ | refine CW.exit ?_ | refine CW.condT rfl ?_ | refine CW.condF rfl ?_)
      refine CW.reg ?_
      refine WL.val rfl (run_move) ?_
      refine WL.val rfl (run_move) ?_
      refine WL.val rfl (run_lenSl Try.underlying29 rfl) ?_
      refine WL.val rfl (run_move) ?_
      refine WL.val rfl (run_sub (c := ((bs.length - k : Nat) : Int)) rfl rfl (by omega) (by omega)) ?_
      refine WL.val rfl (run_bT (run_gtr rfl rfl) (by omega)) ?_
      refine WL.nil ?_
      repeat (first | refine CW.seq ?_ | refine CW.block ?_ | refine CW.skip ?_ | refine CW.label ?_ | refine CW.exit ?_ | refine CW.condT rfl ?_ | refine CW.condF rfl ?_)
      refine CW.reg ?_
      refine WL.val rfl (run_move) ?_
      refine WL.val rfl (run_lenSl Try.underlying29 rfl) ?_
      refine WL.val rfl (run_move) ?_
      refine WL.val rfl (run_sub (c := (n' : Int)) rfl rfl (by omega) (by omega)) ?_
      refine WL.val rfl (run_assign) ?_
      refine WL.nil ?_
      repeat (first | refine CW.seq ?_ | refine CW.block ?_ | refine CW.skip ?_ | refine CW.label ?_ | refine CW.exit ?_ | refine CW.condT rfl ?_ | refine CW.condF rfl ?_)
      refine CW.reg ?_
      refine WL.val rfl (run_assign) ?_
      refine WL.nil ?_
      repeat (first | refine CW.seq ?_ | refine CW.block ?_ | refine CW.skip ?_ | refine CW.label ?_ | refine CW.exit ?_ | refine CW.condT rfl ?_ | refine CW.condF rfl ?_)
      refine CW.reg ?_
      refine WL.val rfl (run_move) ?_
      refine WL.val rfl (run_move) ?_
      refine WL.val rfl (run_move) ?_
      refine WL.val rfl (run_sliceSlE (lo := 0) (hi := k) (m := cap) Try.underlying29 ty5 rfl rfl rfl rfl (by simp) (by omega) (by omega) (by omega) rfl) ?_
      refine WL.append Try.underlying29 Try.underlying29 ty5 rfl (by decide) rfl rfl (.nil _ _) (hs) (Sl.cut (hat hs) hl1 (Nat.zero_le _) (by omega) (by omega)) (((Cells1.u8s _).take _).drop _) (by first | omega | (simp only [List.length_append, List.length_cons, List.length_nil]; omega)) rfl (fun v44 Lv44 w hv44 hs => ?_)
      refine WL.val rfl (run_assign) ?_
      refine WL.nil ?_
      repeat (first | refine CW.seq ?_ | refine CW.block ?_ | refine CW.skip ?_ | refine CW.label ?_ | refine CW.exit ?_ | refine CW.condT rfl ?_ | refine CW.condF rfl ?_)
      refine CW.reg ?_
      refine WL.val rfl (run_move) ?_
      refine WL.val rfl (run_move) ?_
      refine WL.append Try.underlying29 Try.underlying29 ty5 rfl (by decide) rfl rfl (hv44) (hs) (hu.step0 hs.clear) (Cells1.u8s ins) (by first | omega | (simp only [List.length_append, List.length_cons, List.length_nil]; omega)) rfl (fun v47 Lv47 w hv47 hs => ?_)
      refine WL.val rfl (run_assign) ?_
      refine WL.nil ?_
      repeat (first | refine CW.seq ?_ | refine CW.block ?_ | refine CW.skip ?_ | refine CW.label ?_ | refine CW.exit ?_ | refine CW.condT rfl ?_ | refine CW.condF rfl ?_)
      refine CW.reg ?_
      refine WL.val rfl (run_move) ?_
      refine WL.val rfl (run_move) ?_
      refine WL.val rfl (run_move) ?_
      refine WL.val rfl (run_move) ?_
      refine WL.val rfl (run_add (c := ((k + n' : Nat) : Int)) rfl rfl (by omega) (by omega)) ?_
      refine WL.val rfl (run_sliceSlE (lo := k + n') (hi := bs.length) (m := cap) Try.underlying29 ty5 rfl rfl rfl rfl (by simp) (by omega) (by omega) (by omega) rfl) ?_
      refine WL.append Try.underlying29 Try.underlying29 ty5 rfl (by decide) rfl rfl (hv47) (hs) (Sl.cut (hat hs.append_comm) hl1 (by omega) (by omega) (by omega)) (((Cells1.u8s _).take _).drop _) (by first | omega | (simp only [List.length_append, List.length_cons, List.length_nil]; omega)) rfl (fun v54 Lv54 w hv54 hs => ?_)
      refine WL.val rfl (run_assign) ?_
      refine WL.nil ?_
      have hx : ∃ s : List UInt8, OwnSl 5 1 v54 s.length (u8s s) Lv54 ∧ s.length ≤ 4398046511104 := by
        refine ⟨bs.take k ++ ins ++ bs.drop (k + n'), ?_, by simp; omega⟩
        have e1 : (bs.take k ++ ins ++ bs.drop (k + n')).length = 0 + (k - 0) + ins.length + (bs.length - (k + n')) := by simp; omega
        have e2 : u8s (bs.take k ++ ins ++ bs.drop (k + n')) = [] ++ ((u8s bs).take (k * 1)).drop (0 * 1) ++ u8s ins ++ ((u8s bs).take (bs.length * 1)).drop ((k + n') * 1) := by
          simp [u8s, List.map_take, List.map_drop, List.append_assoc]
          rw [List.take_of_length_le (by simp)]
        rw [e1, e2]
        exact hv54
      obtain ⟨s, hv, hsl⟩ := hx
      repeat (first | refine CW.seq ?_ | refine CW.block ?_ | refine CW.skip ?_ | refine CW.label ?_ | refine CW.exit ?_ | refine CW.condT rfl ?_ | refine CW.condF rfl ?_)
      refine CW.reg ?_
      refine WL.val rfl (run_move) ?_
      refine WL.enter rfl (run_call en4 rfl rfl) (reads_spec _ (hv.sl hs) (hv.room (by decide)) hsl) ?_
      rintro e w ⟨rfl, hq⟩
      refine ⟨_, rfl, ?_⟩
      replace hs := hs.callE hq
      refine WL.val rfl (run_assign) ?_
      refine WL.nil ?_
      repeat (first | refine CW.seq ?_ | refine CW.block ?_ | refine CW.skip ?_ | refine CW.label ?_ | refine CW.exit ?_ | refine CW.condT rfl ?_ | refine CW.condF rfl ?_)
      refine CW.ret ?_
      refine fin_ret1 rfl ?_
      exact ⟨rfl, hs.clear⟩
    · have hobt : ∃ n', n' = n := ⟨_, rfl⟩
      obtain ⟨n', hn'⟩ := hobt
      subst hn'
      repeat (first | refine CW.seq ?_ | refine CW.block ?_ | refine CW.skip ?_ | refine CW.label ?_ | refine CW.exit ?_ | refine CW.condT rfl ?_ | refine CW.condF rfl ?_)
      refine CW.reg ?_
      refine WL.val rfl (run_move) ?_
      refine WL.val rfl (run_move) ?_
      refine WL.val rfl (run_lenSl Try.underlying29 rfl) ?_
      refine WL.val rfl (run_move) ?_
      refine WL.val rfl (run_sub (c := ((bs.length - k : Nat) : Int)) rfl rfl (by omega) (by omega)) ?_
      refine WL.val rfl (run_bF (run_gtr rfl rfl) (by omega)) ?_
      refine WL.nil ?_
      repeat (first | refine CW.seq ?_ | refine CW.block ?_ | refine CW.skip ?_ | refine CW.label ?_ | refine CW.exit ?_ | refine CW.condT rfl ?_ | refine CW.condF rfl ?_)
      refine CW.reg ?_
      refine WL.val rfl (run_assign) ?_
      refine WL.nil ?_
      repeat (first | refine CW.seq ?_ | refine CW.block ?_ | refine CW.skip ?_ | refine CW.label ?_ | refine CW.exit ?_ | refine CW.condT rfl ?_ | refine CW.condF rfl ?_)
      refine CW.reg ?_
      refine WL.val rfl (run_move) ?_
      refine WL.val rfl (run_move) ?_
      refine WL.val rfl (run_move) ?_
      refine WL.val rfl (run_sliceSlE (lo := 0) (hi := k) (m := cap) Try.underlying29 ty5 rfl rfl rfl rfl (by simp) (by omega) (by omega) (by omega) rfl) ?_
      refine WL.append Try.underlying29 Try.underlying29 ty5 rfl (by decide) rfl rfl (.nil _ _) (hs) (Sl.cut (hat hs) hl1 (Nat.zero_le _) (by omega) (by omega)) (((Cells1.u8s _).take _).drop _) (by first | omega | (simp only [List.length_append, List.length_cons, List.length_nil]; omega)) rfl (fun v44 Lv44 w hv44 hs => ?_)
      refine WL.val rfl (run_assign) ?_
      refine WL.nil ?_
      repeat (first | refine CW.seq ?_ | refine CW.block ?_ | refine CW.skip ?_ | refine CW.label ?_ | refine CW.exit ?_ | refine CW.condT rfl ?_ | refine CW.condF rfl ?_)
      refine CW.reg ?_
      refine WL.val rfl (run_move) ?_
      refine WL.val rfl (run_move) ?_
      refine WL.append Try.underlying29 Try.underlying29 ty5 rfl (by decide) rfl rfl (hv44) (hs) (hu.step0 hs.clear) (Cells1.u8s ins) (by first | omega | (simp only [List.length_append, List.length_cons, List.length_nil]; omega)) rfl (fun v47 Lv47 w hv47 hs => ?_)
      refine WL.val rfl (run_assign) ?_
      refine WL.nil ?_
      repeat (first | refine CW.seq ?_ | refine CW.block ?_ | refine CW.skip ?_ | refine CW.label ?_ | refine CW.exit ?_ | refine CW.condT rfl ?_ | refine CW.condF rfl ?_)
      refine CW.reg ?_
      refine WL.val rfl (run_move) ?_
      refine WL.val rfl (run_move) ?_
      refine WL.val rfl (run_move) ?_
      refine WL.val rfl (run_move) ?_
      refine WL.val rfl (run_add (c := ((k + n' : Nat) : Int)) rfl rfl (by omega) (by omega)) ?_
      refine WL.val rfl (run_sliceSlE (lo := k + n') (hi := bs.length) (m := cap) Try.underlying29 ty5 rfl rfl rfl rfl (by simp) (by omega) (by omega) (by omega) rfl) ?_
      refine WL.append Try.underlying29 Try.underlying29 ty5 rfl (by decide) rfl rfl (hv47) (hs) (Sl.cut (hat hs.append_comm) hl1 (by omega) (by omega) (by omega)) (((Cells1.u8s _).take _).drop _) (by first | omega | (simp only [List.length_append, List.length_cons, List.length_nil]; omega)) rfl (fun v54 Lv54 w hv54 hs => ?_)
      refine WL.val rfl (run_assign) ?_
      refine WL.nil ?_
      have hx : ∃ s : List UInt8, OwnSl 5 1 v54 s.length (u8s s) Lv54 ∧ s.length ≤ 4398046511104 := by
        refine ⟨bs.take k ++ ins ++ bs.drop (k + n'), ?_, by simp; omega⟩
        have e1 : (bs.take k ++ ins ++ bs.drop (k + n')).length = 0 + (k - 0) + ins.length + (bs.length - (k + n')) := by simp; omega
        have e2 : u8s (bs.take k ++ ins ++ bs.drop (k + n')) = [] ++ ((u8s bs).take (k * 1)).drop (0 * 1) ++ u8s ins ++ ((u8s bs).take (bs.length * 1)).drop ((k + n') * 1) := by
          simp [u8s, List.map_take, List.map_drop, List.append_assoc]
          rw [List.take_of_length_le (by simp)]
        rw [e1, e2]
        exact hv54
      obtain ⟨s, hv, hsl⟩ := hx
      repeat (first | refine CW.seq ?_ | refine CW.block ?_ | refine CW.skip ?_ | refine CW.label ?_ | refine CW.exit ?_ | refine CW.condT rfl ?_ | refine CW.condF rfl ?_)
      refine CW.reg ?_
      refine WL.val rfl (run_move) ?_
      refine WL.enter rfl (run_call en4 rfl rfl) (reads_spec _ (hv.sl hs) (hv.room (by decide)) hsl) ?_
      rintro e w ⟨rfl, hq⟩
      refine ⟨_, rfl, ?_⟩
      replace hs := hs.callE hq
      refine WL.val rfl (run_assign) ?_
      refine WL.nil ?_
      repeat (first | refine CW.seq ?_ | refine CW.block ?_ | refine CW.skip ?_ | refine CW.label ?_ | refine CW.exit ?_ | refine CW.condT rfl ?_ | refine CW.condF rfl ?_)
      refine CW.ret ?_
      refine fin_ret1 rfl ?_
      exact ⟨rfl, hs.clear⟩
  · refine calls (n := 57) Try.func5 rfl rfl rfl ?_
    repeat (first | refine CW.seq ?_ | refine CW.block ?_ | refine CW.skip ?_ | refine CW.label ?_ | refine CW.exit ?_ | refine CW.condT rfl ?_ | refine CW.condF rfl ?_)
    refine CW.reg ?_
    refine WL.val rfl (run_assign) ?_
    refine WL.nil ?_
    repeat (first | refine CW.seq ?_ | refine CW.block ?_ | refine CW.skip ?_ | refine CW.label ?_ | refine CW.exit ?_ | refine CW.condT rfl ?_ | refine CW.condF rfl ?_)
    refine CW.reg ?_
    refine WL.enter rfl (run_call en11 rfl rfl) (known_spec _) ?_
    rintro e w ⟨rfl, hq⟩
    refine ⟨_, rfl, ?_⟩
    replace hs := hs.callE hq
    first | refine WL.val rfl (run_notB rfl) ?_ | refine WL.val rfl (run_not rfl) ?_
    refine WL.nil ?_
    repeat (first | refine CW.seq ?_ | refine CW.block ?_ | refine CW.skip ?_ | refine CW.label ?_ | refine CW.exit ?_ | refine CW.condT rfl ?_ | refine CW.condF rfl ?_)
    refine CW.reg ?_
    refine WL.val rfl (run_move) ?_
    refine WL.enter rfl (run_call en17 rfl rfl) (encodeR_bad _ (hl.step0 hs) hcap hc) ?_
    rintro e w ⟨rfl, hq⟩
    refine ⟨_, rfl, ?_⟩
    replace hs := hs.callE hq
    refine WL.val rfl (run_move) ?_
    refine WL.val rfl (run_extract rfl rfl) ?_
    refine WL.val rfl (run_extract rfl rfl) ?_
    refine WL.val rfl (run_assign) ?_
    refine WL.val rfl (run_assign) ?_
    refine WL.nil ?_
    repeat (first | refine CW.seq ?_ | refine CW.block ?_ | refine CW.skip ?_ | refine CW.label ?_ | refine CW.exit ?_ | refine CW.condT rfl ?_ | refine CW.condF rfl ?_)
    refine CW.reg ?_
    refine WL.val rfl (run_move) ?_
    refine WL.val rfl (run_bT (run_neq rfl rfl) (by exact hc)) ?_
    refine WL.nil ?_
    repeat (first | refine CW.seq ?_ | refine CW.block ?_ | refine CW.skip ?_ | refine CW.label ?_ | refine CW.exit ?_ | refine CW.condT rfl ?_ | refine CW.condF rfl ?_)
    refine CW.reg ?_
    refine WL.val rfl (run_assign) ?_
    refine WL.nil ?_
    repeat (first | refine CW.seq ?_ | refine CW.block ?_ | refine CW.skip ?_ | refine CW.label ?_ | refine CW.exit ?_ | refine CW.condT rfl ?_ | refine CW.condF rfl ?_)
    refine CW.ret ?_
    refine fin_ret1 rfl ?_
    exact ⟨rfl, hs⟩
end Go.Gx
