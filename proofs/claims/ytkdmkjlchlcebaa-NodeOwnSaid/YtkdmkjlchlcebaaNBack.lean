/- NodeBack's walk. -/
import Derived.Test.YtkdmkjlchlcebaaTurns
import Derived.Test.YtkdmkjlchlcebaaBack
namespace Go.Gx
open Go.Proofs
set_option linter.unusedVariables false
set_option linter.unusedSimpArgs false
set_option maxRecDepth 100000

attribute [local irreducible] decE decL readP decP encB checkE
theorem same_false {u v : Value} {l m : List Ent} (h : ¬ l = m) (w : World) (hu : Es w u l) (hv : Es w v m) : Calls Try.prog 22 #[u, v] w (Ret0 (.bool false) w) := by
  have := same_spec w hu hv
  rw [decide_eq_false h] at this
  exact this
theorem Sl.none0 (w : World) : Sl w 1 (.slice none 0 0) ([] : List UInt8).length (u8s []) := Sl.nil w 1 0

set_option maxHeartbeats 1600000 in
theorem back_spec {v v' u : Value} {l m : List Ent} {bs : List UInt8} (w0 : World) (hl : Es w0 v l) (hm : Es w0 v' m) (hu : Sl w0 1 u bs.length (u8s bs)) (hbl : bs.length ≤ 9223372036854775807) : Calls Try.prog 6 #[v, v', u] w0 fun e w' => e = .returned (.bool true) ∧ Step [] [] w0 w' := by
  have hs : Step [] [] w0 w0 := Step.refl w0
  by_cases hc : checkE l = 0
  · have hobt := dec_enc hl.2.1 hc (enc_len hl.2.1 hc)
    obtain ⟨hde, hdl⟩ := hobt
    by_cases hc' : checkE m = 0
    · by_cases hlm : l = m
      · refine calls (n := 108) Try.func6 rfl rfl rfl ?_
        repeat (first | refine CW.seq ?_ | refine CW.block ?_ | refine CW.skip ?_ | refine CW.label ?_ | refine CW.exit ?_ | refine CW.condT rfl ?_ | refine CW.condF rfl ?_)
        refine CW.reg ?_
        refine WL.val rfl (run_assign) ?_
        refine WL.nil ?_
        repeat (first | refine CW.seq ?_ | refine CW.block ?_ | refine CW.skip ?_ | refine CW.label ?_ | refine CW.exit ?_ | refine CW.condT rfl ?_ | refine CW.condF rfl ?_)
        refine CW.reg ?_
        refine WL.enter rfl (run_call en11 rfl rfl) (known_spec _) ?_
        rintro e w ⟨rfl, hq⟩
        refine ⟨_, rfl, ?_⟩
        replace hs := hs.callE hq
        first | refine WL.val rfl (run_notB rfl) ?_ | refine WL.val rfl (run_not rfl) ?_
        refine WL.nil ?_
        repeat (first | refine CW.seq ?_ | refine CW.block ?_ | refine CW.skip ?_ | refine CW.label ?_ | refine CW.exit ?_ | refine CW.condT rfl ?_ | refine CW.condF rfl ?_)
        refine CW.reg ?_
        refine WL.val rfl (run_move) ?_
        refine WL.enter rfl (run_call en16 rfl rfl) (encode_ok _ (hl.step0 hs) hc) ?_
        rintro e w ⟨p, Lp, rfl, hp, hq⟩
        refine ⟨_, rfl, ?_⟩
        replace hs := (hs.call0 hq).append_comm
        refine WL.val rfl (run_move) ?_
        refine WL.val rfl (run_extract rfl rfl) ?_
        refine WL.val rfl (run_extract rfl rfl) ?_
        refine WL.val rfl (run_assign) ?_
        refine WL.val rfl (run_assign) ?_
        refine WL.nil ?_
        have hpl := enc_len hl.2.1 hc
        have hform := hp.form
        obtain ⟨pa, pc, hpq⟩ := hform
        subst hpq
        repeat (first | refine CW.seq ?_ | refine CW.block ?_ | refine CW.skip ?_ | refine CW.label ?_ | refine CW.exit ?_ | refine CW.condT rfl ?_ | refine CW.condF rfl ?_)
        refine CW.reg ?_
        refine WL.val rfl (run_move) ?_
        refine WL.val rfl (run_eql rfl rfl) ?_
        refine WL.val rfl (run_move) ?_
        refine WL.enter rfl (run_call en13 rfl rfl) (check_spec hc _ (hl.step0 hs.clear)) ?_
        rintro e w ⟨rfl, hq⟩
        refine ⟨_, rfl, ?_⟩
        replace hs := hs.callE hq
        refine WL.val rfl (run_eql rfl rfl) ?_
        refine WL.val rfl (run_neqB Try.underlying4 rfl rfl) ?_
        refine WL.nil ?_
        repeat (first | refine CW.seq ?_ | refine CW.block ?_ | refine CW.skip ?_ | refine CW.label ?_ | refine CW.exit ?_ | refine CW.condT rfl ?_ | refine CW.condF rfl ?_)
        refine CW.reg ?_
        refine WL.val rfl (run_move) ?_
        refine WL.val rfl (run_bT (run_eql rfl rfl) (by rfl)) ?_
        refine WL.nil ?_
        repeat (first | refine CW.seq ?_ | refine CW.block ?_ | refine CW.skip ?_ | refine CW.label ?_ | refine CW.exit ?_ | refine CW.condT rfl ?_ | refine CW.condF rfl ?_)
        refine CW.reg ?_
        refine WL.val rfl (run_move) ?_
        refine WL.enter rfl (run_call en19 rfl rfl) (decode_at (bs := encB l) _ (hp.sl hs.append_comm) (by omega)) ?_
        rintro e w ⟨x, Lx, rfl, hx, hxo, hxl, hq⟩
        refine ⟨_, rfl, ?_⟩
        replace hs := (hs.call0 hq).append_comm
        refine WL.val rfl (run_move) ?_
        refine WL.val rfl (run_extract rfl rfl) ?_
        refine WL.val rfl (run_extract rfl rfl) ?_
        refine WL.val rfl (run_assign) ?_
        refine WL.val rfl (run_assign) ?_
        refine WL.nil ?_
        rw [hdl] at hx hxo hxl
        rw [hde]
        repeat (first | refine CW.seq ?_ | refine CW.block ?_ | refine CW.skip ?_ | refine CW.label ?_ | refine CW.exit ?_ | refine CW.condT rfl ?_ | refine CW.condF rfl ?_)
        refine CW.reg ?_
        refine WL.val rfl (run_move) ?_
        refine WL.val rfl (run_bF (run_neq rfl rfl) (by decide)) ?_
        refine WL.val rfl (run_move) ?_
        refine WL.yes rfl rfl rfl ?_
        refine WL.val rfl (run_move) ?_
        refine WL.yes rfl rfl rfl ?_
        refine WL.val rfl (run_move) ?_
        refine WL.yes rfl rfl rfl ?_
        refine WL.enter rfl (run_call en22 rfl rfl) (same_true rfl _ (hx.es hxo (by omega) hs.append_comm) (hl.step0 hs.clear)) ?_
        rintro e w ⟨rfl, hq⟩
        refine ⟨_, rfl, ?_⟩
        replace hs := hs.callE hq
        refine WL.yes rfl rfl rfl ?_
        first | refine WL.val rfl (run_notB rfl) ?_ | refine WL.val rfl (run_not rfl) ?_
        first | refine WL.val rfl (run_pickT rfl) ?_ | refine WL.val rfl (run_pickF rfl) ?_
        refine WL.nil ?_
        replace hs : Step [] Lp w0 w := Step.dropR (L1 := [] ++ Lp) hs
        repeat (first | refine CW.seq ?_ | refine CW.block ?_ | refine CW.skip ?_ | refine CW.label ?_ | refine CW.exit ?_ | refine CW.condT rfl ?_ | refine CW.condF rfl ?_)
        refine CW.reg ?_
        refine WL.val rfl (run_move) ?_
        refine WL.enter rfl (run_call en16 rfl rfl) (encode_ok _ (hm.step0 hs.clear) hc') ?_
        rintro e w ⟨q, Lq, rfl, hq1, hq⟩
        refine ⟨_, rfl, ?_⟩
        replace hs := (hs.call0 hq).append_comm
        refine WL.val rfl (run_move) ?_
        refine WL.val rfl (run_extract rfl rfl) ?_
        refine WL.val rfl (run_extract rfl rfl) ?_
        refine WL.val rfl (run_assign) ?_
        refine WL.val rfl (run_assign) ?_
        refine WL.nil ?_
        subst hlm
        have hform := hq1.form
        obtain ⟨qa, qc, hqq⟩ := hform
        subst hqq
        repeat (first | refine CW.seq ?_ | refine CW.block ?_ | refine CW.skip ?_ | refine CW.label ?_ | refine CW.exit ?_ | refine CW.condT rfl ?_ | refine CW.condF rfl ?_)
        refine CW.quiet mixedP (by kernel_rfl) hs ?_
        refine QL.val rfl (fun w hs => run_move) ?_
        refine QL.val rfl (fun w hs => run_bT (run_eql rfl rfl) (by rfl)) ?_
        refine QL.val rfl (fun w hs => run_move) ?_
        refine QL.yes rfl rfl rfl ?_
        refine QL.val rfl (fun w hs => run_move) ?_
        refine QL.yes rfl rfl rfl ?_
        refine QL.val rfl (fun w hs => run_toString Try.underlying29 Try.underlying9 Try.underlying5 rfl (hp.sl hs)) ?_
        refine QL.yes rfl rfl rfl ?_
        refine QL.val rfl (fun w hs => run_move) ?_
        refine QL.yes rfl rfl rfl ?_
        refine QL.val rfl (fun w hs => run_toString Try.underlying29 Try.underlying9 Try.underlying5 rfl (hq1.sl hs.append_comm)) ?_
        refine QL.yes rfl rfl rfl ?_
        refine QL.val rfl (fun w hs => run_bT (run_strEq rfl rfl) (by rfl)) ?_
        refine QL.yes rfl rfl rfl ?_
        refine QL.val rfl (fun w hs => run_move) ?_
        refine QL.yes rfl rfl rfl ?_
        refine QL.val rfl (fun w hs => run_move) ?_
        refine QL.yes rfl rfl rfl ?_
        refine QL.enter rfl (fun w => run_call en22 rfl rfl) (fun w hs => same_true rfl _ (hl.step0 hs.clear) (hm.step0 hs.clear)) ?_
        refine QL.yes rfl rfl rfl ?_
        refine QL.val rfl (fun w hs => run_neqB Try.underlying4 rfl rfl) ?_
        first | refine QL.val rfl (fun w hs => run_pickT rfl) ?_ | refine QL.val rfl (fun w hs => run_pickF rfl) ?_
        refine QL.val rfl (fun w hs => run_move) ?_
        refine QL.yes rfl rfl rfl ?_
        refine QL.val rfl (fun w hs => run_move) ?_
        refine QL.yes rfl rfl rfl ?_
        refine QL.val rfl (fun w hs => run_bT (run_eql rfl rfl) (by rfl)) ?_
        refine QL.yes rfl rfl rfl ?_
        refine QL.val rfl (fun w hs => run_move) ?_
        refine QL.yes rfl rfl rfl ?_
        refine QL.val rfl (fun w hs => run_move) ?_
        refine QL.yes rfl rfl rfl ?_
        refine QL.val rfl (fun w hs => run_lenSl Try.underlying29 rfl) ?_
        refine QL.yes rfl rfl rfl ?_
        refine QL.val rfl (fun w hs => run_move) ?_
        refine QL.yes rfl rfl rfl ?_
        refine QL.val rfl (fun w hs => run_lenSl Try.underlying29 rfl) ?_
        refine QL.yes rfl rfl rfl ?_
        refine QL.val rfl (fun w hs => run_bF (run_lss rfl rfl) (by omega)) ?_
        refine QL.yes rfl rfl rfl ?_
        first | refine QL.val rfl (fun w hs => run_pickT rfl) ?_ | refine QL.val rfl (fun w hs => run_pickF rfl) ?_
        refine QL.yes rfl rfl rfl ?_
        refine QL.val rfl (fun w hs => run_move) ?_
        first | refine QL.no rfl rfl rfl (.inl rfl) ?_ | refine QL.no rfl rfl rfl (.inr rfl) ?_
        first | refine QL.no rfl rfl rfl (.inl rfl) ?_ | refine QL.no rfl rfl rfl (.inr rfl) ?_
        first | refine QL.no rfl rfl rfl (.inl rfl) ?_ | refine QL.no rfl rfl rfl (.inr rfl) ?_
        first | refine QL.no rfl rfl rfl (.inl rfl) ?_ | refine QL.no rfl rfl rfl (.inr rfl) ?_
        first | refine QL.no rfl rfl rfl (.inl rfl) ?_ | refine QL.no rfl rfl rfl (.inr rfl) ?_
        first | refine QL.no rfl rfl rfl (.inl rfl) ?_ | refine QL.no rfl rfl rfl (.inr rfl) ?_
        first | refine QL.no rfl rfl rfl (.inl rfl) ?_ | refine QL.no rfl rfl rfl (.inr rfl) ?_
        first | refine QL.no rfl rfl rfl (.inl rfl) ?_ | refine QL.no rfl rfl rfl (.inr rfl) ?_
        refine QL.yes rfl rfl rfl ?_
        first | refine QL.val rfl (fun w hs => run_pickT rfl) ?_ | refine QL.val rfl (fun w hs => run_pickF rfl) ?_
        first | refine QL.val rfl (fun w hs => run_pickT rfl) ?_ | refine QL.val rfl (fun w hs => run_pickF rfl) ?_
        refine QL.nil (fun w hs => ?_)
        have hw : Step [] [] w0 w := hs.clear
        clear hs
        have hs := hw
        try clear hde
        try clear hdl
        repeat (first | refine CW.seq ?_ | refine CW.block ?_ | refine CW.skip ?_ | refine CW.label ?_ | refine CW.exit ?_ | refine CW.condT rfl ?_ | refine CW.condF rfl ?_)
        refine CW.reg ?_
        refine WL.val rfl (run_move) ?_
        refine WL.enter rfl (run_call en19 rfl rfl) (decode_at (bs := bs) _ (hu.step0 hs) (by omega)) ?_
        rintro e w ⟨x, Lx, rfl, hx, hxo, hxl, hq⟩
        refine ⟨_, rfl, ?_⟩
        replace hs := (hs.call0 hq).append_comm
        refine WL.val rfl (run_move) ?_
        refine WL.val rfl (run_extract rfl rfl) ?_
        refine WL.val rfl (run_extract rfl rfl) ?_
        refine WL.val rfl (run_assign) ?_
        refine WL.val rfl (run_assign) ?_
        refine WL.nil ?_
        have hform := hx.form
        obtain ⟨xa, xc, hxq⟩ := hform
        subst hxq
        by_cases hd : decE bs = 0
        · have hobt := dec_back hd
          obtain ⟨hdc, hde⟩ := hobt
          replace hs : Step [] Lx w0 w := hs
          have hes : Es w (.slice xa (decL bs).length xc) (decL bs) := hx.es hxo (by omega) (L := []) (by rw [List.append_nil]; exact hs)
          repeat (first | refine CW.seq ?_ | refine CW.block ?_ | refine CW.skip ?_ | refine CW.label ?_ | refine CW.exit ?_ | refine CW.condT rfl ?_ | refine CW.condF rfl ?_)
          refine CW.reg ?_
          refine WL.val rfl (run_move) ?_
          refine WL.val rfl (run_bF (run_neq rfl rfl) (by simpa using hd)) ?_
          refine WL.nil ?_
          repeat (first | refine CW.seq ?_ | refine CW.block ?_ | refine CW.skip ?_ | refine CW.label ?_ | refine CW.exit ?_ | refine CW.condT rfl ?_ | refine CW.condF rfl ?_)
          refine CW.reg ?_
          refine WL.val rfl (run_move) ?_
          refine WL.enter rfl (run_call en16 rfl rfl) (encode_ok _ hes hdc) ?_
          rintro e w ⟨q, Lq, rfl, hq1, hq⟩
          refine ⟨_, rfl, ?_⟩
          replace hs := hs.call0 hq
          refine WL.val rfl (run_move) ?_
          refine WL.val rfl (run_extract rfl rfl) ?_
          refine WL.val rfl (run_extract rfl rfl) ?_
          refine WL.val rfl (run_assign) ?_
          refine WL.val rfl (run_assign) ?_
          refine WL.nil ?_
          rw [hde] at hq1
          repeat (first | refine CW.seq ?_ | refine CW.block ?_ | refine CW.skip ?_ | refine CW.label ?_ | refine CW.exit ?_ | refine CW.condT rfl ?_ | refine CW.condF rfl ?_)
          refine CW.reg ?_
          refine WL.val rfl (run_move) ?_
          refine WL.val rfl (run_bT (run_eql rfl rfl) (by rfl)) ?_
          refine WL.val rfl (run_move) ?_
          refine WL.yes rfl rfl rfl ?_
          refine WL.val rfl (run_move) ?_
          refine WL.yes rfl rfl rfl ?_
          refine WL.val rfl (run_toString Try.underlying29 Try.underlying9 Try.underlying5 rfl (hq1.sl hs)) ?_
          refine WL.yes rfl rfl rfl ?_
          refine WL.val rfl (run_move) ?_
          refine WL.yes rfl rfl rfl ?_
          refine WL.val rfl (run_toString Try.underlying29 Try.underlying9 Try.underlying5 rfl (hu.step0 hs.clear)) ?_
          refine WL.yes rfl rfl rfl ?_
          refine WL.val rfl (run_bT (run_strEq rfl rfl) (by rfl)) ?_
          first | refine WL.val rfl (run_pickT rfl) ?_ | refine WL.val rfl (run_pickF rfl) ?_
          refine WL.val rfl (run_assign) ?_
          refine WL.nil ?_
          repeat (first | refine CW.seq ?_ | refine CW.block ?_ | refine CW.skip ?_ | refine CW.label ?_ | refine CW.exit ?_ | refine CW.condT rfl ?_ | refine CW.condF rfl ?_)
          refine CW.ret ?_
          refine fin_ret1 rfl ?_
          exact ⟨rfl, hs.clear⟩
        · have hdl : decL bs = [] := by unfold decL; exact if_neg hd
          repeat (first | refine CW.seq ?_ | refine CW.block ?_ | refine CW.skip ?_ | refine CW.label ?_ | refine CW.exit ?_ | refine CW.condT rfl ?_ | refine CW.condF rfl ?_)
          refine CW.reg ?_
          refine WL.val rfl (run_move) ?_
          refine WL.val rfl (run_bT (run_neq rfl rfl) (by exact hd)) ?_
          refine WL.nil ?_
          repeat (first | refine CW.seq ?_ | refine CW.block ?_ | refine CW.skip ?_ | refine CW.label ?_ | refine CW.exit ?_ | refine CW.condT rfl ?_ | refine CW.condF rfl ?_)
          refine CW.reg ?_
          refine WL.val rfl (run_move) ?_
          refine WL.val rfl (run_lenSl Try.underlying22 rfl) ?_
          refine WL.val rfl (run_bT (run_eql rfl rfl) (by rw [hdl]; rfl)) ?_
          refine WL.val rfl (run_assign) ?_
          refine WL.nil ?_
          repeat (first | refine CW.seq ?_ | refine CW.block ?_ | refine CW.skip ?_ | refine CW.label ?_ | refine CW.exit ?_ | refine CW.condT rfl ?_ | refine CW.condF rfl ?_)
          refine CW.ret ?_
          refine fin_ret1 rfl ?_
          exact ⟨rfl, hs.clear⟩
      · have hne : ¬ encB l = encB m := fun h => hlm (enc_inj hl.2.1 hc hm.2.1 hc' h)
        refine calls (n := 108) Try.func6 rfl rfl rfl ?_
        repeat (first | refine CW.seq ?_ | refine CW.block ?_ | refine CW.skip ?_ | refine CW.label ?_ | refine CW.exit ?_ | refine CW.condT rfl ?_ | refine CW.condF rfl ?_)
        refine CW.reg ?_
        refine WL.val rfl (run_assign) ?_
        refine WL.nil ?_
        repeat (first | refine CW.seq ?_ | refine CW.block ?_ | refine CW.skip ?_ | refine CW.label ?_ | refine CW.exit ?_ | refine CW.condT rfl ?_ | refine CW.condF rfl ?_)
        refine CW.reg ?_
        refine WL.enter rfl (run_call en11 rfl rfl) (known_spec _) ?_
        rintro e w ⟨rfl, hq⟩
        refine ⟨_, rfl, ?_⟩
        replace hs := hs.callE hq
        first | refine WL.val rfl (run_notB rfl) ?_ | refine WL.val rfl (run_not rfl) ?_
        refine WL.nil ?_
        repeat (first | refine CW.seq ?_ | refine CW.block ?_ | refine CW.skip ?_ | refine CW.label ?_ | refine CW.exit ?_ | refine CW.condT rfl ?_ | refine CW.condF rfl ?_)
        refine CW.reg ?_
        refine WL.val rfl (run_move) ?_
        refine WL.enter rfl (run_call en16 rfl rfl) (encode_ok _ (hl.step0 hs) hc) ?_
        rintro e w ⟨p, Lp, rfl, hp, hq⟩
        refine ⟨_, rfl, ?_⟩
        replace hs := (hs.call0 hq).append_comm
        refine WL.val rfl (run_move) ?_
        refine WL.val rfl (run_extract rfl rfl) ?_
        refine WL.val rfl (run_extract rfl rfl) ?_
        refine WL.val rfl (run_assign) ?_
        refine WL.val rfl (run_assign) ?_
        refine WL.nil ?_
        have hpl := enc_len hl.2.1 hc
        have hform := hp.form
        obtain ⟨pa, pc, hpq⟩ := hform
        subst hpq
        repeat (first | refine CW.seq ?_ | refine CW.block ?_ | refine CW.skip ?_ | refine CW.label ?_ | refine CW.exit ?_ | refine CW.condT rfl ?_ | refine CW.condF rfl ?_)
        refine CW.reg ?_
        refine WL.val rfl (run_move) ?_
        refine WL.val rfl (run_eql rfl rfl) ?_
        refine WL.val rfl (run_move) ?_
        refine WL.enter rfl (run_call en13 rfl rfl) (check_spec hc _ (hl.step0 hs.clear)) ?_
        rintro e w ⟨rfl, hq⟩
        refine ⟨_, rfl, ?_⟩
        replace hs := hs.callE hq
        refine WL.val rfl (run_eql rfl rfl) ?_
        refine WL.val rfl (run_neqB Try.underlying4 rfl rfl) ?_
        refine WL.nil ?_
        repeat (first | refine CW.seq ?_ | refine CW.block ?_ | refine CW.skip ?_ | refine CW.label ?_ | refine CW.exit ?_ | refine CW.condT rfl ?_ | refine CW.condF rfl ?_)
        refine CW.reg ?_
        refine WL.val rfl (run_move) ?_
        refine WL.val rfl (run_bT (run_eql rfl rfl) (by rfl)) ?_
        refine WL.nil ?_
        repeat (first | refine CW.seq ?_ | refine CW.block ?_ | refine CW.skip ?_ | refine CW.label ?_ | refine CW.exit ?_ | refine CW.condT rfl ?_ | refine CW.condF rfl ?_)
        refine CW.reg ?_
        refine WL.val rfl (run_move) ?_
        refine WL.enter rfl (run_call en19 rfl rfl) (decode_at (bs := encB l) _ (hp.sl hs.append_comm) (by omega)) ?_
        rintro e w ⟨x, Lx, rfl, hx, hxo, hxl, hq⟩
        refine ⟨_, rfl, ?_⟩
        replace hs := (hs.call0 hq).append_comm
        refine WL.val rfl (run_move) ?_
        refine WL.val rfl (run_extract rfl rfl) ?_
        refine WL.val rfl (run_extract rfl rfl) ?_
        refine WL.val rfl (run_assign) ?_
        refine WL.val rfl (run_assign) ?_
        refine WL.nil ?_
        rw [hdl] at hx hxo hxl
        rw [hde]
        repeat (first | refine CW.seq ?_ | refine CW.block ?_ | refine CW.skip ?_ | refine CW.label ?_ | refine CW.exit ?_ | refine CW.condT rfl ?_ | refine CW.condF rfl ?_)
        refine CW.reg ?_
        refine WL.val rfl (run_move) ?_
        refine WL.val rfl (run_bF (run_neq rfl rfl) (by decide)) ?_
        refine WL.val rfl (run_move) ?_
        refine WL.yes rfl rfl rfl ?_
        refine WL.val rfl (run_move) ?_
        refine WL.yes rfl rfl rfl ?_
        refine WL.val rfl (run_move) ?_
        refine WL.yes rfl rfl rfl ?_
        refine WL.enter rfl (run_call en22 rfl rfl) (same_true rfl _ (hx.es hxo (by omega) hs.append_comm) (hl.step0 hs.clear)) ?_
        rintro e w ⟨rfl, hq⟩
        refine ⟨_, rfl, ?_⟩
        replace hs := hs.callE hq
        refine WL.yes rfl rfl rfl ?_
        first | refine WL.val rfl (run_notB rfl) ?_ | refine WL.val rfl (run_not rfl) ?_
        first | refine WL.val rfl (run_pickT rfl) ?_ | refine WL.val rfl (run_pickF rfl) ?_
        refine WL.nil ?_
        replace hs : Step [] Lp w0 w := Step.dropR (L1 := [] ++ Lp) hs
        repeat (first | refine CW.seq ?_ | refine CW.block ?_ | refine CW.skip ?_ | refine CW.label ?_ | refine CW.exit ?_ | refine CW.condT rfl ?_ | refine CW.condF rfl ?_)
        refine CW.reg ?_
        refine WL.val rfl (run_move) ?_
        refine WL.enter rfl (run_call en16 rfl rfl) (encode_ok _ (hm.step0 hs.clear) hc') ?_
        rintro e w ⟨q, Lq, rfl, hq1, hq⟩
        refine ⟨_, rfl, ?_⟩
        replace hs := (hs.call0 hq).append_comm
        refine WL.val rfl (run_move) ?_
        refine WL.val rfl (run_extract rfl rfl) ?_
        refine WL.val rfl (run_extract rfl rfl) ?_
        refine WL.val rfl (run_assign) ?_
        refine WL.val rfl (run_assign) ?_
        refine WL.nil ?_
        by_cases hlt : (encB l).length < (encB m).length
        · have hnf : ¬ (encB m).take (encB l).length = encB l := fun h => by
            have := enc_front hl.2.1 hc hm.2.1 hc' (t := (encB m).drop (encB l).length) (by rw [← h, List.length_take, Nat.min_eq_left (Nat.le_of_lt hlt), List.take_append_drop])
            have := congrArg List.length this
            simp at this
            omega
          have hform := hq1
          obtain ⟨hml, ⟨_, h0, _⟩ | ⟨b1, cap, more, hqq, hqL, hcp⟩⟩ := hform
          · omega
          subst hqq
          subst hqL
          have hcp' : (encB m).length ≤ cap := by
            rw [List.length_append, u8s_len, Nat.mul_one] at hcp
            omega
          have hcut : ∀ w, Step [] (Lp ++ [(b1, blk 5 (u8s (encB m) ++ more))]) w0 w → Sl w 1 (cutSl 1 b1 0 0 (encB l).length cap) ((encB m).take (encB l).length).length (u8s ((encB m).take (encB l).length)) := fun w hs => by
            have h1 := Sl.cut (lo := 0) (hi := (encB l).length) (m := cap) (At.of_blk (T := 5) hs.append_comm.hd).left (n := (encB m).length) (sz := 1) (by rw [u8s_len, Nat.mul_one]) (Nat.zero_le _) (by omega) (by omega)
            have e1 : ((encB m).take (encB l).length).length = (encB l).length - 0 := by simp; omega
            rw [e1]
            simpa [u8s, List.map_take] using h1
          repeat (first | refine CW.seq ?_ | refine CW.block ?_ | refine CW.skip ?_ | refine CW.label ?_ | refine CW.exit ?_ | refine CW.condT rfl ?_ | refine CW.condF rfl ?_)
          refine CW.quiet mixedP (by kernel_rfl) hs ?_
          refine QL.val rfl (fun w hs => run_move) ?_
          refine QL.val rfl (fun w hs => run_bT (run_eql rfl rfl) (by rfl)) ?_
          refine QL.val rfl (fun w hs => run_move) ?_
          refine QL.yes rfl rfl rfl ?_
          refine QL.val rfl (fun w hs => run_move) ?_
          refine QL.yes rfl rfl rfl ?_
          refine QL.val rfl (fun w hs => run_toString Try.underlying29 Try.underlying9 Try.underlying5 rfl (hp.sl hs)) ?_
          refine QL.yes rfl rfl rfl ?_
          refine QL.val rfl (fun w hs => run_move) ?_
          refine QL.yes rfl rfl rfl ?_
          refine QL.val rfl (fun w hs => run_toString Try.underlying29 Try.underlying9 Try.underlying5 rfl (hq1.sl hs.append_comm)) ?_
          refine QL.yes rfl rfl rfl ?_
          refine QL.val rfl (fun w hs => run_bF (run_strEq rfl rfl) (by exact hne)) ?_
          refine QL.yes rfl rfl rfl ?_
          refine QL.val rfl (fun w hs => run_move) ?_
          refine QL.yes rfl rfl rfl ?_
          refine QL.val rfl (fun w hs => run_move) ?_
          refine QL.yes rfl rfl rfl ?_
          refine QL.enter rfl (fun w => run_call en22 rfl rfl) (fun w hs => same_false hlm _ (hl.step0 hs.clear) (hm.step0 hs.clear)) ?_
          refine QL.yes rfl rfl rfl ?_
          refine QL.val rfl (fun w hs => run_neqB Try.underlying4 rfl rfl) ?_
          first | refine QL.val rfl (fun w hs => run_pickT rfl) ?_ | refine QL.val rfl (fun w hs => run_pickF rfl) ?_
          refine QL.val rfl (fun w hs => run_move) ?_
          refine QL.yes rfl rfl rfl ?_
          refine QL.val rfl (fun w hs => run_move) ?_
          refine QL.yes rfl rfl rfl ?_
          refine QL.val rfl (fun w hs => run_bT (run_eql rfl rfl) (by rfl)) ?_
          refine QL.yes rfl rfl rfl ?_
          refine QL.val rfl (fun w hs => run_move) ?_
          refine QL.yes rfl rfl rfl ?_
          refine QL.val rfl (fun w hs => run_move) ?_
          refine QL.yes rfl rfl rfl ?_
          refine QL.val rfl (fun w hs => run_lenSl Try.underlying29 rfl) ?_
          refine QL.yes rfl rfl rfl ?_
          refine QL.val rfl (fun w hs => run_move) ?_
          refine QL.yes rfl rfl rfl ?_
          refine QL.val rfl (fun w hs => run_lenSl Try.underlying29 rfl) ?_
          refine QL.yes rfl rfl rfl ?_
          refine QL.val rfl (fun w hs => run_bT (run_lss rfl rfl) (by omega)) ?_
          refine QL.yes rfl rfl rfl ?_
          first | refine QL.val rfl (fun w hs => run_pickT rfl) ?_ | refine QL.val rfl (fun w hs => run_pickF rfl) ?_
          refine QL.yes rfl rfl rfl ?_
          refine QL.val rfl (fun w hs => run_move) ?_
          refine QL.yes rfl rfl rfl ?_
          refine QL.val rfl (fun w hs => run_move) ?_
          refine QL.yes rfl rfl rfl ?_
          refine QL.val rfl (fun w hs => run_move) ?_
          refine QL.yes rfl rfl rfl ?_
          refine QL.val rfl (fun w hs => run_lenSl Try.underlying29 rfl) ?_
          refine QL.yes rfl rfl rfl ?_
          refine QL.val rfl (fun w hs => run_sliceSlE (lo := 0) (hi := (encB l).length) (m := cap) Try.underlying29 ty5 rfl rfl rfl rfl (by simp) (by omega) (by omega) (by omega) rfl) ?_
          refine QL.yes rfl rfl rfl ?_
          refine QL.val rfl (fun w hs => run_toString Try.underlying29 Try.underlying9 Try.underlying5 rfl (hcut w hs)) ?_
          refine QL.yes rfl rfl rfl ?_
          refine QL.val rfl (fun w hs => run_move) ?_
          refine QL.yes rfl rfl rfl ?_
          refine QL.val rfl (fun w hs => run_toString Try.underlying29 Try.underlying9 Try.underlying5 rfl (hp.sl hs)) ?_
          refine QL.yes rfl rfl rfl ?_
          refine QL.val rfl (fun w hs => run_bF (run_strEq rfl rfl) (by exact hnf)) ?_
          refine QL.yes rfl rfl rfl ?_
          first | refine QL.val rfl (fun w hs => run_pickT rfl) ?_ | refine QL.val rfl (fun w hs => run_pickF rfl) ?_
          first | refine QL.val rfl (fun w hs => run_pickT rfl) ?_ | refine QL.val rfl (fun w hs => run_pickF rfl) ?_
          refine QL.nil (fun w hs => ?_)
          have hw : Step [] [] w0 w := hs.clear
          clear hs
          have hs := hw
          try clear hde
          try clear hdl
          repeat (first | refine CW.seq ?_ | refine CW.block ?_ | refine CW.skip ?_ | refine CW.label ?_ | refine CW.exit ?_ | refine CW.condT rfl ?_ | refine CW.condF rfl ?_)
          refine CW.reg ?_
          refine WL.val rfl (run_move) ?_
          refine WL.enter rfl (run_call en19 rfl rfl) (decode_at (bs := bs) _ (hu.step0 hs) (by omega)) ?_
          rintro e w ⟨x, Lx, rfl, hx, hxo, hxl, hq⟩
          refine ⟨_, rfl, ?_⟩
          replace hs := (hs.call0 hq).append_comm
          refine WL.val rfl (run_move) ?_
          refine WL.val rfl (run_extract rfl rfl) ?_
          refine WL.val rfl (run_extract rfl rfl) ?_
          refine WL.val rfl (run_assign) ?_
          refine WL.val rfl (run_assign) ?_
          refine WL.nil ?_
          have hform := hx.form
          obtain ⟨xa, xc, hxq⟩ := hform
          subst hxq
          by_cases hd : decE bs = 0
          · have hobt := dec_back hd
            obtain ⟨hdc, hde⟩ := hobt
            replace hs : Step [] Lx w0 w := hs
            have hes : Es w (.slice xa (decL bs).length xc) (decL bs) := hx.es hxo (by omega) (L := []) (by rw [List.append_nil]; exact hs)
            repeat (first | refine CW.seq ?_ | refine CW.block ?_ | refine CW.skip ?_ | refine CW.label ?_ | refine CW.exit ?_ | refine CW.condT rfl ?_ | refine CW.condF rfl ?_)
            refine CW.reg ?_
            refine WL.val rfl (run_move) ?_
            refine WL.val rfl (run_bF (run_neq rfl rfl) (by simpa using hd)) ?_
            refine WL.nil ?_
            repeat (first | refine CW.seq ?_ | refine CW.block ?_ | refine CW.skip ?_ | refine CW.label ?_ | refine CW.exit ?_ | refine CW.condT rfl ?_ | refine CW.condF rfl ?_)
            refine CW.reg ?_
            refine WL.val rfl (run_move) ?_
            refine WL.enter rfl (run_call en16 rfl rfl) (encode_ok _ hes hdc) ?_
            rintro e w ⟨q, Lq, rfl, hq1, hq⟩
            refine ⟨_, rfl, ?_⟩
            replace hs := hs.call0 hq
            refine WL.val rfl (run_move) ?_
            refine WL.val rfl (run_extract rfl rfl) ?_
            refine WL.val rfl (run_extract rfl rfl) ?_
            refine WL.val rfl (run_assign) ?_
            refine WL.val rfl (run_assign) ?_
            refine WL.nil ?_
            rw [hde] at hq1
            repeat (first | refine CW.seq ?_ | refine CW.block ?_ | refine CW.skip ?_ | refine CW.label ?_ | refine CW.exit ?_ | refine CW.condT rfl ?_ | refine CW.condF rfl ?_)
            refine CW.reg ?_
            refine WL.val rfl (run_move) ?_
            refine WL.val rfl (run_bT (run_eql rfl rfl) (by rfl)) ?_
            refine WL.val rfl (run_move) ?_
            refine WL.yes rfl rfl rfl ?_
            refine WL.val rfl (run_move) ?_
            refine WL.yes rfl rfl rfl ?_
            refine WL.val rfl (run_toString Try.underlying29 Try.underlying9 Try.underlying5 rfl (hq1.sl hs)) ?_
            refine WL.yes rfl rfl rfl ?_
            refine WL.val rfl (run_move) ?_
            refine WL.yes rfl rfl rfl ?_
            refine WL.val rfl (run_toString Try.underlying29 Try.underlying9 Try.underlying5 rfl (hu.step0 hs.clear)) ?_
            refine WL.yes rfl rfl rfl ?_
            refine WL.val rfl (run_bT (run_strEq rfl rfl) (by rfl)) ?_
            first | refine WL.val rfl (run_pickT rfl) ?_ | refine WL.val rfl (run_pickF rfl) ?_
            refine WL.val rfl (run_assign) ?_
            refine WL.nil ?_
            repeat (first | refine CW.seq ?_ | refine CW.block ?_ | refine CW.skip ?_ | refine CW.label ?_ | refine CW.exit ?_ | refine CW.condT rfl ?_ | refine CW.condF rfl ?_)
            refine CW.ret ?_
            refine fin_ret1 rfl ?_
            exact ⟨rfl, hs.clear⟩
          · have hdl : decL bs = [] := by unfold decL; exact if_neg hd
            repeat (first | refine CW.seq ?_ | refine CW.block ?_ | refine CW.skip ?_ | refine CW.label ?_ | refine CW.exit ?_ | refine CW.condT rfl ?_ | refine CW.condF rfl ?_)
            refine CW.reg ?_
            refine WL.val rfl (run_move) ?_
            refine WL.val rfl (run_bT (run_neq rfl rfl) (by exact hd)) ?_
            refine WL.nil ?_
            repeat (first | refine CW.seq ?_ | refine CW.block ?_ | refine CW.skip ?_ | refine CW.label ?_ | refine CW.exit ?_ | refine CW.condT rfl ?_ | refine CW.condF rfl ?_)
            refine CW.reg ?_
            refine WL.val rfl (run_move) ?_
            refine WL.val rfl (run_lenSl Try.underlying22 rfl) ?_
            refine WL.val rfl (run_bT (run_eql rfl rfl) (by rw [hdl]; rfl)) ?_
            refine WL.val rfl (run_assign) ?_
            refine WL.nil ?_
            repeat (first | refine CW.seq ?_ | refine CW.block ?_ | refine CW.skip ?_ | refine CW.label ?_ | refine CW.exit ?_ | refine CW.condT rfl ?_ | refine CW.condF rfl ?_)
            refine CW.ret ?_
            refine fin_ret1 rfl ?_
            exact ⟨rfl, hs.clear⟩
        · have hform := hq1.form
          obtain ⟨qa, qc, hqq⟩ := hform
          subst hqq
          repeat (first | refine CW.seq ?_ | refine CW.block ?_ | refine CW.skip ?_ | refine CW.label ?_ | refine CW.exit ?_ | refine CW.condT rfl ?_ | refine CW.condF rfl ?_)
          refine CW.quiet mixedP (by kernel_rfl) hs ?_
          refine QL.val rfl (fun w hs => run_move) ?_
          refine QL.val rfl (fun w hs => run_bT (run_eql rfl rfl) (by rfl)) ?_
          refine QL.val rfl (fun w hs => run_move) ?_
          refine QL.yes rfl rfl rfl ?_
          refine QL.val rfl (fun w hs => run_move) ?_
          refine QL.yes rfl rfl rfl ?_
          refine QL.val rfl (fun w hs => run_toString Try.underlying29 Try.underlying9 Try.underlying5 rfl (hp.sl hs)) ?_
          refine QL.yes rfl rfl rfl ?_
          refine QL.val rfl (fun w hs => run_move) ?_
          refine QL.yes rfl rfl rfl ?_
          refine QL.val rfl (fun w hs => run_toString Try.underlying29 Try.underlying9 Try.underlying5 rfl (hq1.sl hs.append_comm)) ?_
          refine QL.yes rfl rfl rfl ?_
          refine QL.val rfl (fun w hs => run_bF (run_strEq rfl rfl) (by exact hne)) ?_
          refine QL.yes rfl rfl rfl ?_
          refine QL.val rfl (fun w hs => run_move) ?_
          refine QL.yes rfl rfl rfl ?_
          refine QL.val rfl (fun w hs => run_move) ?_
          refine QL.yes rfl rfl rfl ?_
          refine QL.enter rfl (fun w => run_call en22 rfl rfl) (fun w hs => same_false hlm _ (hl.step0 hs.clear) (hm.step0 hs.clear)) ?_
          refine QL.yes rfl rfl rfl ?_
          refine QL.val rfl (fun w hs => run_neqB Try.underlying4 rfl rfl) ?_
          first | refine QL.val rfl (fun w hs => run_pickT rfl) ?_ | refine QL.val rfl (fun w hs => run_pickF rfl) ?_
          refine QL.val rfl (fun w hs => run_move) ?_
          refine QL.yes rfl rfl rfl ?_
          refine QL.val rfl (fun w hs => run_move) ?_
          refine QL.yes rfl rfl rfl ?_
          refine QL.val rfl (fun w hs => run_bT (run_eql rfl rfl) (by rfl)) ?_
          refine QL.yes rfl rfl rfl ?_
          refine QL.val rfl (fun w hs => run_move) ?_
          refine QL.yes rfl rfl rfl ?_
          refine QL.val rfl (fun w hs => run_move) ?_
          refine QL.yes rfl rfl rfl ?_
          refine QL.val rfl (fun w hs => run_lenSl Try.underlying29 rfl) ?_
          refine QL.yes rfl rfl rfl ?_
          refine QL.val rfl (fun w hs => run_move) ?_
          refine QL.yes rfl rfl rfl ?_
          refine QL.val rfl (fun w hs => run_lenSl Try.underlying29 rfl) ?_
          refine QL.yes rfl rfl rfl ?_
          refine QL.val rfl (fun w hs => run_bF (run_lss rfl rfl) (by omega)) ?_
          refine QL.yes rfl rfl rfl ?_
          first | refine QL.val rfl (fun w hs => run_pickT rfl) ?_ | refine QL.val rfl (fun w hs => run_pickF rfl) ?_
          refine QL.yes rfl rfl rfl ?_
          refine QL.val rfl (fun w hs => run_move) ?_
          first | refine QL.no rfl rfl rfl (.inl rfl) ?_ | refine QL.no rfl rfl rfl (.inr rfl) ?_
          first | refine QL.no rfl rfl rfl (.inl rfl) ?_ | refine QL.no rfl rfl rfl (.inr rfl) ?_
          first | refine QL.no rfl rfl rfl (.inl rfl) ?_ | refine QL.no rfl rfl rfl (.inr rfl) ?_
          first | refine QL.no rfl rfl rfl (.inl rfl) ?_ | refine QL.no rfl rfl rfl (.inr rfl) ?_
          first | refine QL.no rfl rfl rfl (.inl rfl) ?_ | refine QL.no rfl rfl rfl (.inr rfl) ?_
          first | refine QL.no rfl rfl rfl (.inl rfl) ?_ | refine QL.no rfl rfl rfl (.inr rfl) ?_
          first | refine QL.no rfl rfl rfl (.inl rfl) ?_ | refine QL.no rfl rfl rfl (.inr rfl) ?_
          first | refine QL.no rfl rfl rfl (.inl rfl) ?_ | refine QL.no rfl rfl rfl (.inr rfl) ?_
          refine QL.yes rfl rfl rfl ?_
          first | refine QL.val rfl (fun w hs => run_pickT rfl) ?_ | refine QL.val rfl (fun w hs => run_pickF rfl) ?_
          first | refine QL.val rfl (fun w hs => run_pickT rfl) ?_ | refine QL.val rfl (fun w hs => run_pickF rfl) ?_
          refine QL.nil (fun w hs => ?_)
          have hw : Step [] [] w0 w := hs.clear
          clear hs
          have hs := hw
          try clear hde
          try clear hdl
          repeat (first | refine CW.seq ?_ | refine CW.block ?_ | refine CW.skip ?_ | refine CW.label ?_ | refine CW.exit ?_ | refine CW.condT rfl ?_ | refine CW.condF rfl ?_)
          refine CW.reg ?_
          refine WL.val rfl (run_move) ?_
          refine WL.enter rfl (run_call en19 rfl rfl) (decode_at (bs := bs) _ (hu.step0 hs) (by omega)) ?_
          rintro e w ⟨x, Lx, rfl, hx, hxo, hxl, hq⟩
          refine ⟨_, rfl, ?_⟩
          replace hs := (hs.call0 hq).append_comm
          refine WL.val rfl (run_move) ?_
          refine WL.val rfl (run_extract rfl rfl) ?_
          refine WL.val rfl (run_extract rfl rfl) ?_
          refine WL.val rfl (run_assign) ?_
          refine WL.val rfl (run_assign) ?_
          refine WL.nil ?_
          have hform := hx.form
          obtain ⟨xa, xc, hxq⟩ := hform
          subst hxq
          by_cases hd : decE bs = 0
          · have hobt := dec_back hd
            obtain ⟨hdc, hde⟩ := hobt
            replace hs : Step [] Lx w0 w := hs
            have hes : Es w (.slice xa (decL bs).length xc) (decL bs) := hx.es hxo (by omega) (L := []) (by rw [List.append_nil]; exact hs)
            repeat (first | refine CW.seq ?_ | refine CW.block ?_ | refine CW.skip ?_ | refine CW.label ?_ | refine CW.exit ?_ | refine CW.condT rfl ?_ | refine CW.condF rfl ?_)
            refine CW.reg ?_
            refine WL.val rfl (run_move) ?_
            refine WL.val rfl (run_bF (run_neq rfl rfl) (by simpa using hd)) ?_
            refine WL.nil ?_
            repeat (first | refine CW.seq ?_ | refine CW.block ?_ | refine CW.skip ?_ | refine CW.label ?_ | refine CW.exit ?_ | refine CW.condT rfl ?_ | refine CW.condF rfl ?_)
            refine CW.reg ?_
            refine WL.val rfl (run_move) ?_
            refine WL.enter rfl (run_call en16 rfl rfl) (encode_ok _ hes hdc) ?_
            rintro e w ⟨q, Lq, rfl, hq1, hq⟩
            refine ⟨_, rfl, ?_⟩
            replace hs := hs.call0 hq
            refine WL.val rfl (run_move) ?_
            refine WL.val rfl (run_extract rfl rfl) ?_
            refine WL.val rfl (run_extract rfl rfl) ?_
            refine WL.val rfl (run_assign) ?_
            refine WL.val rfl (run_assign) ?_
            refine WL.nil ?_
            rw [hde] at hq1
            repeat (first | refine CW.seq ?_ | refine CW.block ?_ | refine CW.skip ?_ | refine CW.label ?_ | refine CW.exit ?_ | refine CW.condT rfl ?_ | refine CW.condF rfl ?_)
            refine CW.reg ?_
            refine WL.val rfl (run_move) ?_
            refine WL.val rfl (run_bT (run_eql rfl rfl) (by rfl)) ?_
            refine WL.val rfl (run_move) ?_
            refine WL.yes rfl rfl rfl ?_
            refine WL.val rfl (run_move) ?_
            refine WL.yes rfl rfl rfl ?_
            refine WL.val rfl (run_toString Try.underlying29 Try.underlying9 Try.underlying5 rfl (hq1.sl hs)) ?_
            refine WL.yes rfl rfl rfl ?_
            refine WL.val rfl (run_move) ?_
            refine WL.yes rfl rfl rfl ?_
            refine WL.val rfl (run_toString Try.underlying29 Try.underlying9 Try.underlying5 rfl (hu.step0 hs.clear)) ?_
            refine WL.yes rfl rfl rfl ?_
            refine WL.val rfl (run_bT (run_strEq rfl rfl) (by rfl)) ?_
            first | refine WL.val rfl (run_pickT rfl) ?_ | refine WL.val rfl (run_pickF rfl) ?_
            refine WL.val rfl (run_assign) ?_
            refine WL.nil ?_
            repeat (first | refine CW.seq ?_ | refine CW.block ?_ | refine CW.skip ?_ | refine CW.label ?_ | refine CW.exit ?_ | refine CW.condT rfl ?_ | refine CW.condF rfl ?_)
            refine CW.ret ?_
            refine fin_ret1 rfl ?_
            exact ⟨rfl, hs.clear⟩
          · have hdl : decL bs = [] := by unfold decL; exact if_neg hd
            repeat (first | refine CW.seq ?_ | refine CW.block ?_ | refine CW.skip ?_ | refine CW.label ?_ | refine CW.exit ?_ | refine CW.condT rfl ?_ | refine CW.condF rfl ?_)
            refine CW.reg ?_
            refine WL.val rfl (run_move) ?_
            refine WL.val rfl (run_bT (run_neq rfl rfl) (by exact hd)) ?_
            refine WL.nil ?_
            repeat (first | refine CW.seq ?_ | refine CW.block ?_ | refine CW.skip ?_ | refine CW.label ?_ | refine CW.exit ?_ | refine CW.condT rfl ?_ | refine CW.condF rfl ?_)
            refine CW.reg ?_
            refine WL.val rfl (run_move) ?_
            refine WL.val rfl (run_lenSl Try.underlying22 rfl) ?_
            refine WL.val rfl (run_bT (run_eql rfl rfl) (by rw [hdl]; rfl)) ?_
            refine WL.val rfl (run_assign) ?_
            refine WL.nil ?_
            repeat (first | refine CW.seq ?_ | refine CW.block ?_ | refine CW.skip ?_ | refine CW.label ?_ | refine CW.exit ?_ | refine CW.condT rfl ?_ | refine CW.condF rfl ?_)
            refine CW.ret ?_
            refine fin_ret1 rfl ?_
            exact ⟨rfl, hs.clear⟩
    · refine calls (n := 108) Try.func6 rfl rfl rfl ?_
      repeat (first | refine CW.seq ?_ | refine CW.block ?_ | refine CW.skip ?_ | refine CW.label ?_ | refine CW.exit ?_ | refine CW.condT rfl ?_ | refine CW.condF rfl ?_)
      refine CW.reg ?_
      refine WL.val rfl (run_assign) ?_
      refine WL.nil ?_
      repeat (first | refine CW.seq ?_ | refine CW.block ?_ | refine CW.skip ?_ | refine CW.label ?_ | refine CW.exit ?_ | refine CW.condT rfl ?_ | refine CW.condF rfl ?_)
      refine CW.reg ?_
      refine WL.enter rfl (run_call en11 rfl rfl) (known_spec _) ?_
      rintro e w ⟨rfl, hq⟩
      refine ⟨_, rfl, ?_⟩
      replace hs := hs.callE hq
      first | refine WL.val rfl (run_notB rfl) ?_ | refine WL.val rfl (run_not rfl) ?_
      refine WL.nil ?_
      repeat (first | refine CW.seq ?_ | refine CW.block ?_ | refine CW.skip ?_ | refine CW.label ?_ | refine CW.exit ?_ | refine CW.condT rfl ?_ | refine CW.condF rfl ?_)
      refine CW.reg ?_
      refine WL.val rfl (run_move) ?_
      refine WL.enter rfl (run_call en16 rfl rfl) (encode_ok _ (hl.step0 hs) hc) ?_
      rintro e w ⟨p, Lp, rfl, hp, hq⟩
      refine ⟨_, rfl, ?_⟩
      replace hs := (hs.call0 hq).append_comm
      refine WL.val rfl (run_move) ?_
      refine WL.val rfl (run_extract rfl rfl) ?_
      refine WL.val rfl (run_extract rfl rfl) ?_
      refine WL.val rfl (run_assign) ?_
      refine WL.val rfl (run_assign) ?_
      refine WL.nil ?_
      have hpl := enc_len hl.2.1 hc
      have hform := hp.form
      obtain ⟨pa, pc, hpq⟩ := hform
      subst hpq
      repeat (first | refine CW.seq ?_ | refine CW.block ?_ | refine CW.skip ?_ | refine CW.label ?_ | refine CW.exit ?_ | refine CW.condT rfl ?_ | refine CW.condF rfl ?_)
      refine CW.reg ?_
      refine WL.val rfl (run_move) ?_
      refine WL.val rfl (run_eql rfl rfl) ?_
      refine WL.val rfl (run_move) ?_
      refine WL.enter rfl (run_call en13 rfl rfl) (check_spec hc _ (hl.step0 hs.clear)) ?_
      rintro e w ⟨rfl, hq⟩
      refine ⟨_, rfl, ?_⟩
      replace hs := hs.callE hq
      refine WL.val rfl (run_eql rfl rfl) ?_
      refine WL.val rfl (run_neqB Try.underlying4 rfl rfl) ?_
      refine WL.nil ?_
      repeat (first | refine CW.seq ?_ | refine CW.block ?_ | refine CW.skip ?_ | refine CW.label ?_ | refine CW.exit ?_ | refine CW.condT rfl ?_ | refine CW.condF rfl ?_)
      refine CW.reg ?_
      refine WL.val rfl (run_move) ?_
      refine WL.val rfl (run_bT (run_eql rfl rfl) (by rfl)) ?_
      refine WL.nil ?_
      repeat (first | refine CW.seq ?_ | refine CW.block ?_ | refine CW.skip ?_ | refine CW.label ?_ | refine CW.exit ?_ | refine CW.condT rfl ?_ | refine CW.condF rfl ?_)
      refine CW.reg ?_
      refine WL.val rfl (run_move) ?_
      refine WL.enter rfl (run_call en19 rfl rfl) (decode_at (bs := encB l) _ (hp.sl hs.append_comm) (by omega)) ?_
      rintro e w ⟨x, Lx, rfl, hx, hxo, hxl, hq⟩
      refine ⟨_, rfl, ?_⟩
      replace hs := (hs.call0 hq).append_comm
      refine WL.val rfl (run_move) ?_
      refine WL.val rfl (run_extract rfl rfl) ?_
      refine WL.val rfl (run_extract rfl rfl) ?_
      refine WL.val rfl (run_assign) ?_
      refine WL.val rfl (run_assign) ?_
      refine WL.nil ?_
      rw [hdl] at hx hxo hxl
      rw [hde]
      repeat (first | refine CW.seq ?_ | refine CW.block ?_ | refine CW.skip ?_ | refine CW.label ?_ | refine CW.exit ?_ | refine CW.condT rfl ?_ | refine CW.condF rfl ?_)
      refine CW.reg ?_
      refine WL.val rfl (run_move) ?_
      refine WL.val rfl (run_bF (run_neq rfl rfl) (by decide)) ?_
      refine WL.val rfl (run_move) ?_
      refine WL.yes rfl rfl rfl ?_
      refine WL.val rfl (run_move) ?_
      refine WL.yes rfl rfl rfl ?_
      refine WL.val rfl (run_move) ?_
      refine WL.yes rfl rfl rfl ?_
      refine WL.enter rfl (run_call en22 rfl rfl) (same_true rfl _ (hx.es hxo (by omega) hs.append_comm) (hl.step0 hs.clear)) ?_
      rintro e w ⟨rfl, hq⟩
      refine ⟨_, rfl, ?_⟩
      replace hs := hs.callE hq
      refine WL.yes rfl rfl rfl ?_
      first | refine WL.val rfl (run_notB rfl) ?_ | refine WL.val rfl (run_not rfl) ?_
      first | refine WL.val rfl (run_pickT rfl) ?_ | refine WL.val rfl (run_pickF rfl) ?_
      refine WL.nil ?_
      replace hs : Step [] Lp w0 w := Step.dropR (L1 := [] ++ Lp) hs
      repeat (first | refine CW.seq ?_ | refine CW.block ?_ | refine CW.skip ?_ | refine CW.label ?_ | refine CW.exit ?_ | refine CW.condT rfl ?_ | refine CW.condF rfl ?_)
      refine CW.reg ?_
      refine WL.val rfl (run_move) ?_
      refine WL.enter rfl (run_call en16 rfl rfl) (encode_bad _ (hm.step0 hs.clear) hc') ?_
      rintro e w ⟨rfl, hq⟩
      refine ⟨_, rfl, ?_⟩
      replace hs := hs.callE hq
      refine WL.val rfl (run_move) ?_
      refine WL.val rfl (run_extract rfl rfl) ?_
      refine WL.val rfl (run_extract rfl rfl) ?_
      refine WL.val rfl (run_assign) ?_
      refine WL.val rfl (run_assign) ?_
      refine WL.nil ?_
      repeat (first | refine CW.seq ?_ | refine CW.block ?_ | refine CW.skip ?_ | refine CW.label ?_ | refine CW.exit ?_ | refine CW.condT rfl ?_ | refine CW.condF rfl ?_)
      refine CW.quiet mixedP (by kernel_rfl) hs ?_
      refine QL.val rfl (fun w hs => run_move) ?_
      refine QL.val rfl (fun w hs => run_bF (run_eql rfl rfl) (by exact hc')) ?_
      refine QL.val rfl (fun w hs => run_move) ?_
      first | refine QL.no rfl rfl rfl (.inl rfl) ?_ | refine QL.no rfl rfl rfl (.inr rfl) ?_
      first | refine QL.no rfl rfl rfl (.inl rfl) ?_ | refine QL.no rfl rfl rfl (.inr rfl) ?_
      first | refine QL.no rfl rfl rfl (.inl rfl) ?_ | refine QL.no rfl rfl rfl (.inr rfl) ?_
      first | refine QL.no rfl rfl rfl (.inl rfl) ?_ | refine QL.no rfl rfl rfl (.inr rfl) ?_
      first | refine QL.no rfl rfl rfl (.inl rfl) ?_ | refine QL.no rfl rfl rfl (.inr rfl) ?_
      first | refine QL.no rfl rfl rfl (.inl rfl) ?_ | refine QL.no rfl rfl rfl (.inr rfl) ?_
      first | refine QL.no rfl rfl rfl (.inl rfl) ?_ | refine QL.no rfl rfl rfl (.inr rfl) ?_
      first | refine QL.no rfl rfl rfl (.inl rfl) ?_ | refine QL.no rfl rfl rfl (.inr rfl) ?_
      first | refine QL.no rfl rfl rfl (.inl rfl) ?_ | refine QL.no rfl rfl rfl (.inr rfl) ?_
      first | refine QL.val rfl (fun w hs => run_pickT rfl) ?_ | refine QL.val rfl (fun w hs => run_pickF rfl) ?_
      refine QL.val rfl (fun w hs => run_move) ?_
      refine QL.yes rfl rfl rfl ?_
      refine QL.val rfl (fun w hs => run_move) ?_
      refine QL.yes rfl rfl rfl ?_
      refine QL.val rfl (fun w hs => run_bF (run_eql rfl rfl) (by exact hc')) ?_
      refine QL.yes rfl rfl rfl ?_
      refine QL.val rfl (fun w hs => run_move) ?_
      first | refine QL.no rfl rfl rfl (.inl rfl) ?_ | refine QL.no rfl rfl rfl (.inr rfl) ?_
      first | refine QL.no rfl rfl rfl (.inl rfl) ?_ | refine QL.no rfl rfl rfl (.inr rfl) ?_
      first | refine QL.no rfl rfl rfl (.inl rfl) ?_ | refine QL.no rfl rfl rfl (.inr rfl) ?_
      first | refine QL.no rfl rfl rfl (.inl rfl) ?_ | refine QL.no rfl rfl rfl (.inr rfl) ?_
      first | refine QL.no rfl rfl rfl (.inl rfl) ?_ | refine QL.no rfl rfl rfl (.inr rfl) ?_
      refine QL.yes rfl rfl rfl ?_
      first | refine QL.val rfl (fun w hs => run_pickT rfl) ?_ | refine QL.val rfl (fun w hs => run_pickF rfl) ?_
      refine QL.yes rfl rfl rfl ?_
      refine QL.val rfl (fun w hs => run_move) ?_
      first | refine QL.no rfl rfl rfl (.inl rfl) ?_ | refine QL.no rfl rfl rfl (.inr rfl) ?_
      first | refine QL.no rfl rfl rfl (.inl rfl) ?_ | refine QL.no rfl rfl rfl (.inr rfl) ?_
      first | refine QL.no rfl rfl rfl (.inl rfl) ?_ | refine QL.no rfl rfl rfl (.inr rfl) ?_
      first | refine QL.no rfl rfl rfl (.inl rfl) ?_ | refine QL.no rfl rfl rfl (.inr rfl) ?_
      first | refine QL.no rfl rfl rfl (.inl rfl) ?_ | refine QL.no rfl rfl rfl (.inr rfl) ?_
      first | refine QL.no rfl rfl rfl (.inl rfl) ?_ | refine QL.no rfl rfl rfl (.inr rfl) ?_
      first | refine QL.no rfl rfl rfl (.inl rfl) ?_ | refine QL.no rfl rfl rfl (.inr rfl) ?_
      first | refine QL.no rfl rfl rfl (.inl rfl) ?_ | refine QL.no rfl rfl rfl (.inr rfl) ?_
      refine QL.yes rfl rfl rfl ?_
      first | refine QL.val rfl (fun w hs => run_pickT rfl) ?_ | refine QL.val rfl (fun w hs => run_pickF rfl) ?_
      first | refine QL.val rfl (fun w hs => run_pickT rfl) ?_ | refine QL.val rfl (fun w hs => run_pickF rfl) ?_
      refine QL.nil (fun w hs => ?_)
      have hw : Step [] [] w0 w := hs.clear
      clear hs
      have hs := hw
      try clear hde
      try clear hdl
      repeat (first | refine CW.seq ?_ | refine CW.block ?_ | refine CW.skip ?_ | refine CW.label ?_ | refine CW.exit ?_ | refine CW.condT rfl ?_ | refine CW.condF rfl ?_)
      refine CW.reg ?_
      refine WL.val rfl (run_move) ?_
      refine WL.enter rfl (run_call en19 rfl rfl) (decode_at (bs := bs) _ (hu.step0 hs) (by omega)) ?_
      rintro e w ⟨x, Lx, rfl, hx, hxo, hxl, hq⟩
      refine ⟨_, rfl, ?_⟩
      replace hs := (hs.call0 hq).append_comm
      refine WL.val rfl (run_move) ?_
      refine WL.val rfl (run_extract rfl rfl) ?_
      refine WL.val rfl (run_extract rfl rfl) ?_
      refine WL.val rfl (run_assign) ?_
      refine WL.val rfl (run_assign) ?_
      refine WL.nil ?_
      have hform := hx.form
      obtain ⟨xa, xc, hxq⟩ := hform
      subst hxq
      by_cases hd : decE bs = 0
      · have hobt := dec_back hd
        obtain ⟨hdc, hde⟩ := hobt
        replace hs : Step [] Lx w0 w := hs
        have hes : Es w (.slice xa (decL bs).length xc) (decL bs) := hx.es hxo (by omega) (L := []) (by rw [List.append_nil]; exact hs)
        repeat (first | refine CW.seq ?_ | refine CW.block ?_ | refine CW.skip ?_ | refine CW.label ?_ | refine CW.exit ?_ | refine CW.condT rfl ?_ | refine CW.condF rfl ?_)
        refine CW.reg ?_
        refine WL.val rfl (run_move) ?_
        refine WL.val rfl (run_bF (run_neq rfl rfl) (by simpa using hd)) ?_
        refine WL.nil ?_
        repeat (first | refine CW.seq ?_ | refine CW.block ?_ | refine CW.skip ?_ | refine CW.label ?_ | refine CW.exit ?_ | refine CW.condT rfl ?_ | refine CW.condF rfl ?_)
        refine CW.reg ?_
        refine WL.val rfl (run_move) ?_
        refine WL.enter rfl (run_call en16 rfl rfl) (encode_ok _ hes hdc) ?_
        rintro e w ⟨q, Lq, rfl, hq1, hq⟩
        refine ⟨_, rfl, ?_⟩
        replace hs := hs.call0 hq
        refine WL.val rfl (run_move) ?_
        refine WL.val rfl (run_extract rfl rfl) ?_
        refine WL.val rfl (run_extract rfl rfl) ?_
        refine WL.val rfl (run_assign) ?_
        refine WL.val rfl (run_assign) ?_
        refine WL.nil ?_
        rw [hde] at hq1
        repeat (first | refine CW.seq ?_ | refine CW.block ?_ | refine CW.skip ?_ | refine CW.label ?_ | refine CW.exit ?_ | refine CW.condT rfl ?_ | refine CW.condF rfl ?_)
        refine CW.reg ?_
        refine WL.val rfl (run_move) ?_
        refine WL.val rfl (run_bT (run_eql rfl rfl) (by rfl)) ?_
        refine WL.val rfl (run_move) ?_
        refine WL.yes rfl rfl rfl ?_
        refine WL.val rfl (run_move) ?_
        refine WL.yes rfl rfl rfl ?_
        refine WL.val rfl (run_toString Try.underlying29 Try.underlying9 Try.underlying5 rfl (hq1.sl hs)) ?_
        refine WL.yes rfl rfl rfl ?_
        refine WL.val rfl (run_move) ?_
        refine WL.yes rfl rfl rfl ?_
        refine WL.val rfl (run_toString Try.underlying29 Try.underlying9 Try.underlying5 rfl (hu.step0 hs.clear)) ?_
        refine WL.yes rfl rfl rfl ?_
        refine WL.val rfl (run_bT (run_strEq rfl rfl) (by rfl)) ?_
        first | refine WL.val rfl (run_pickT rfl) ?_ | refine WL.val rfl (run_pickF rfl) ?_
        refine WL.val rfl (run_assign) ?_
        refine WL.nil ?_
        repeat (first | refine CW.seq ?_ | refine CW.block ?_ | refine CW.skip ?_ | refine CW.label ?_ | refine CW.exit ?_ | refine CW.condT rfl ?_ | refine CW.condF rfl ?_)
        refine CW.ret ?_
        refine fin_ret1 rfl ?_
        exact ⟨rfl, hs.clear⟩
      · have hdl : decL bs = [] := by unfold decL; exact if_neg hd
        repeat (first | refine CW.seq ?_ | refine CW.block ?_ | refine CW.skip ?_ | refine CW.label ?_ | refine CW.exit ?_ | refine CW.condT rfl ?_ | refine CW.condF rfl ?_)
        refine CW.reg ?_
        refine WL.val rfl (run_move) ?_
        refine WL.val rfl (run_bT (run_neq rfl rfl) (by exact hd)) ?_
        refine WL.nil ?_
        repeat (first | refine CW.seq ?_ | refine CW.block ?_ | refine CW.skip ?_ | refine CW.label ?_ | refine CW.exit ?_ | refine CW.condT rfl ?_ | refine CW.condF rfl ?_)
        refine CW.reg ?_
        refine WL.val rfl (run_move) ?_
        refine WL.val rfl (run_lenSl Try.underlying22 rfl) ?_
        refine WL.val rfl (run_bT (run_eql rfl rfl) (by rw [hdl]; rfl)) ?_
        refine WL.val rfl (run_assign) ?_
        refine WL.nil ?_
        repeat (first | refine CW.seq ?_ | refine CW.block ?_ | refine CW.skip ?_ | refine CW.label ?_ | refine CW.exit ?_ | refine CW.condT rfl ?_ | refine CW.condF rfl ?_)
        refine CW.ret ?_
        refine fin_ret1 rfl ?_
        exact ⟨rfl, hs.clear⟩
  · refine calls (n := 108) Try.func6 rfl rfl rfl ?_
    repeat (first | refine CW.seq ?_ | refine CW.block ?_ | refine CW.skip ?_ | refine CW.label ?_ | refine CW.exit ?_ | refine CW.condT rfl ?_ | refine CW.condF rfl ?_)
    refine CW.reg ?_
    refine WL.val rfl (run_assign) ?_
    refine WL.nil ?_
    repeat (first | refine CW.seq ?_ | refine CW.block ?_ | refine CW.skip ?_ | refine CW.label ?_ | refine CW.exit ?_ | refine CW.condT rfl ?_ | refine CW.condF rfl ?_)
    refine CW.reg ?_
    refine WL.enter rfl (run_call en11 rfl rfl) (known_spec _) ?_
    rintro e w ⟨rfl, hq⟩
    refine ⟨_, rfl, ?_⟩
    replace hs := hs.callE hq
    first | refine WL.val rfl (run_notB rfl) ?_ | refine WL.val rfl (run_not rfl) ?_
    refine WL.nil ?_
    repeat (first | refine CW.seq ?_ | refine CW.block ?_ | refine CW.skip ?_ | refine CW.label ?_ | refine CW.exit ?_ | refine CW.condT rfl ?_ | refine CW.condF rfl ?_)
    refine CW.reg ?_
    refine WL.val rfl (run_move) ?_
    refine WL.enter rfl (run_call en16 rfl rfl) (encode_bad _ (hl.step0 hs) hc) ?_
    rintro e w ⟨rfl, hq⟩
    refine ⟨_, rfl, ?_⟩
    replace hs := hs.callE hq
    refine WL.val rfl (run_move) ?_
    refine WL.val rfl (run_extract rfl rfl) ?_
    refine WL.val rfl (run_extract rfl rfl) ?_
    refine WL.val rfl (run_assign) ?_
    refine WL.val rfl (run_assign) ?_
    refine WL.nil ?_
    repeat (first | refine CW.seq ?_ | refine CW.block ?_ | refine CW.skip ?_ | refine CW.label ?_ | refine CW.exit ?_ | refine CW.condT rfl ?_ | refine CW.condF rfl ?_)
    refine CW.reg ?_
    refine WL.val rfl (run_move) ?_
    refine WL.val rfl (run_bF (run_eql rfl rfl) (by exact hc)) ?_
    refine WL.val rfl (run_move) ?_
    refine WL.enter rfl (run_call en13 rfl rfl) (check_spec rfl _ (hl.step0 hs)) ?_
    rintro e w ⟨rfl, hq⟩
    refine ⟨_, rfl, ?_⟩
    replace hs := hs.callE hq
    refine WL.val rfl (run_bF (run_eql rfl rfl) (by exact hc)) ?_
    refine WL.val rfl (run_neqB Try.underlying4 rfl rfl) ?_
    refine WL.nil ?_
    repeat (first | refine CW.seq ?_ | refine CW.block ?_ | refine CW.skip ?_ | refine CW.label ?_ | refine CW.exit ?_ | refine CW.condT rfl ?_ | refine CW.condF rfl ?_)
    refine CW.reg ?_
    refine WL.val rfl (run_move) ?_
    refine WL.val rfl (run_bF (run_eql rfl rfl) (by exact hc)) ?_
    refine WL.nil ?_
    have hw : Step [] [] w0 w := hs.clear
    clear hs
    have hs := hw
    try clear hde
    try clear hdl
    repeat (first | refine CW.seq ?_ | refine CW.block ?_ | refine CW.skip ?_ | refine CW.label ?_ | refine CW.exit ?_ | refine CW.condT rfl ?_ | refine CW.condF rfl ?_)
    refine CW.reg ?_
    refine WL.val rfl (run_move) ?_
    refine WL.enter rfl (run_call en19 rfl rfl) (decode_at (bs := bs) _ (hu.step0 hs) (by omega)) ?_
    rintro e w ⟨x, Lx, rfl, hx, hxo, hxl, hq⟩
    refine ⟨_, rfl, ?_⟩
    replace hs := (hs.call0 hq).append_comm
    refine WL.val rfl (run_move) ?_
    refine WL.val rfl (run_extract rfl rfl) ?_
    refine WL.val rfl (run_extract rfl rfl) ?_
    refine WL.val rfl (run_assign) ?_
    refine WL.val rfl (run_assign) ?_
    refine WL.nil ?_
    have hform := hx.form
    obtain ⟨xa, xc, hxq⟩ := hform
    subst hxq
    by_cases hd : decE bs = 0
    · have hobt := dec_back hd
      obtain ⟨hdc, hde⟩ := hobt
      replace hs : Step [] Lx w0 w := hs
      have hes : Es w (.slice xa (decL bs).length xc) (decL bs) := hx.es hxo (by omega) (L := []) (by rw [List.append_nil]; exact hs)
      repeat (first | refine CW.seq ?_ | refine CW.block ?_ | refine CW.skip ?_ | refine CW.label ?_ | refine CW.exit ?_ | refine CW.condT rfl ?_ | refine CW.condF rfl ?_)
      refine CW.reg ?_
      refine WL.val rfl (run_move) ?_
      refine WL.val rfl (run_bF (run_neq rfl rfl) (by simpa using hd)) ?_
      refine WL.nil ?_
      repeat (first | refine CW.seq ?_ | refine CW.block ?_ | refine CW.skip ?_ | refine CW.label ?_ | refine CW.exit ?_ | refine CW.condT rfl ?_ | refine CW.condF rfl ?_)
      refine CW.reg ?_
      refine WL.val rfl (run_move) ?_
      refine WL.enter rfl (run_call en16 rfl rfl) (encode_ok _ hes hdc) ?_
      rintro e w ⟨q, Lq, rfl, hq1, hq⟩
      refine ⟨_, rfl, ?_⟩
      replace hs := hs.call0 hq
      refine WL.val rfl (run_move) ?_
      refine WL.val rfl (run_extract rfl rfl) ?_
      refine WL.val rfl (run_extract rfl rfl) ?_
      refine WL.val rfl (run_assign) ?_
      refine WL.val rfl (run_assign) ?_
      refine WL.nil ?_
      rw [hde] at hq1
      repeat (first | refine CW.seq ?_ | refine CW.block ?_ | refine CW.skip ?_ | refine CW.label ?_ | refine CW.exit ?_ | refine CW.condT rfl ?_ | refine CW.condF rfl ?_)
      refine CW.reg ?_
      refine WL.val rfl (run_move) ?_
      refine WL.val rfl (run_bT (run_eql rfl rfl) (by rfl)) ?_
      refine WL.val rfl (run_move) ?_
      refine WL.yes rfl rfl rfl ?_
      refine WL.val rfl (run_move) ?_
      refine WL.yes rfl rfl rfl ?_
      refine WL.val rfl (run_toString Try.underlying29 Try.underlying9 Try.underlying5 rfl (hq1.sl hs)) ?_
      refine WL.yes rfl rfl rfl ?_
      refine WL.val rfl (run_move) ?_
      refine WL.yes rfl rfl rfl ?_
      refine WL.val rfl (run_toString Try.underlying29 Try.underlying9 Try.underlying5 rfl (hu.step0 hs.clear)) ?_
      refine WL.yes rfl rfl rfl ?_
      refine WL.val rfl (run_bT (run_strEq rfl rfl) (by rfl)) ?_
      first | refine WL.val rfl (run_pickT rfl) ?_ | refine WL.val rfl (run_pickF rfl) ?_
      refine WL.val rfl (run_assign) ?_
      refine WL.nil ?_
      repeat (first | refine CW.seq ?_ | refine CW.block ?_ | refine CW.skip ?_ | refine CW.label ?_ | refine CW.exit ?_ | refine CW.condT rfl ?_ | refine CW.condF rfl ?_)
      refine CW.ret ?_
      refine fin_ret1 rfl ?_
      exact ⟨rfl, hs.clear⟩
    · have hdl : decL bs = [] := by unfold decL; exact if_neg hd
      repeat (first | refine CW.seq ?_ | refine CW.block ?_ | refine CW.skip ?_ | refine CW.label ?_ | refine CW.exit ?_ | refine CW.condT rfl ?_ | refine CW.condF rfl ?_)
      refine CW.reg ?_
      refine WL.val rfl (run_move) ?_
      refine WL.val rfl (run_bT (run_neq rfl rfl) (by exact hd)) ?_
      refine WL.nil ?_
      repeat (first | refine CW.seq ?_ | refine CW.block ?_ | refine CW.skip ?_ | refine CW.label ?_ | refine CW.exit ?_ | refine CW.condT rfl ?_ | refine CW.condF rfl ?_)
      refine CW.reg ?_
      refine WL.val rfl (run_move) ?_
      refine WL.val rfl (run_lenSl Try.underlying22 rfl) ?_
      refine WL.val rfl (run_bT (run_eql rfl rfl) (by rw [hdl]; rfl)) ?_
      refine WL.val rfl (run_assign) ?_
      refine WL.nil ?_
      repeat (first | refine CW.seq ?_ | refine CW.block ?_ | refine CW.skip ?_ | refine CW.label ?_ | refine CW.exit ?_ | refine CW.condT rfl ?_ | refine CW.condF rfl ?_)
      refine CW.ret ?_
      refine fin_ret1 rfl ?_
      exact ⟨rfl, hs.clear⟩
end Go.Gx
