/- node.entry and what reading entries gives. -/
import Derived.Test.YtkdmkjlchlcebaaRead2
import Derived.Test.YtkdmkjlchlcebaaRef5
namespace Go.Gx
open Go.Proofs
set_option linter.unusedVariables false
set_option linter.unusedSimpArgs false
set_option maxRecDepth 100000

def padD (d : List UInt8) : List UInt8 := d ++ List.replicate (32 - d.length) 0
def badD (d : List UInt8) : Prop := 32 < d.length ∨ 0 < d.length ∧ d.getLast? = some 0
instance (d : List UInt8) : Decidable (badD d) := by unfold badD; exact inferInstance
def entP (a : List UInt8) (bs : List UInt8) (p : Nat) : Except Int (Ent × Nat) :=
  match numP bs p with
  | .error e => .error e
  | .ok (k, p1) => if k = 2 ∨ k = 1 then
      match bytesP bs p1 with
      | .error e => .error e
      | .ok (s, p2) => if wrongE k s a = 0 then
          match bytesP bs p2 with
          | .error e => .error e
          | .ok (d, p3) => if badD d then .error 51 else .ok (⟨s, k, padD d⟩, p3)
        else .error 51
    else .error 51

def EntR (b : Nat) (bv : Value) (w0 : World) : Except Int (Ent × Nat) → Ending → World → Prop
  | .ok (x, q), e, w' => e = .returned (.agg x.cells.toArray) ∧ Step [b] [RB b bv q] w0 w'
  | .error er, e, w' => Thrown b bv er w0 e w'
theorem EntR.err {b : Nat} {bv : Value} {w0 w' : World} {ed : Ending} {r : Except Int (Ent × Nat)} {er : Int} (hr : r = .error er) (h : Thrown b bv er w0 ed w') : EntR b bv w0 r ed w' := by subst hr; exact h
theorem EntR.ok {b : Nat} {bv : Value} {w0 w' : World} {ed : Ending} {r : Except Int (Ent × Nat)} {x : Ent} {q : Nat} (hr : r = .ok (x, q)) (he : ed = .returned (.agg x.cells.toArray)) (hs : Step [b] [RB b bv q] w0 w') : EntR b bv w0 r ed w' := by subst hr; exact ⟨he, hs⟩

theorem bld_kind (k : Nat) (w : World) : (Instr.build 48 #[(1, .int .i64 k)]).run Try.prog w = .ok (.agg (Ent.cells ⟨[], k, List.replicate 32 0⟩).toArray) w := by kernel_rfl

theorem numP_le {bs : List UInt8} {p k q : Nat} (h : numP bs p = .ok (k, q)) : k ≤ 9223372036854775807 := by have := numP_ok h; omega
theorem bytesP_len {bs s : List UInt8} {p q : Nat} (h : bytesP bs p = .ok (s, q)) : s.length ≤ bs.length := by
  unfold bytesP at h
  split at h
  · cases h
  · split at h
    · cases h
    · injection h with h; injection h with h2 h3; subst h2; simp; omega

theorem Step.cast {S : List Nat} {b : Nat} {T : TypeId} {cs cs' : List Value} {L : List (Nat × Obj)} {w0 w : World} (h : Step S ((b, blk T cs) :: L) w0 w) (e : cs = cs') : Step S ((b, blk T cs') :: L) w0 w := e ▸ h
theorem pad_splice (k : Nat) (s d : List UInt8) (hd : d.length ≤ 32) : splice ((Ent.cells ⟨[], k, List.replicate 32 0⟩).set 0 (str s)) 2 ((u8s d).take (min d.length 32 * 1)) = Ent.cells ⟨s, k, padD d⟩ := by
  rw [Nat.min_eq_left hd, Nat.mul_one, List.take_of_length_le (by simp [u8s])]
  have e : (u8s (List.replicate 32 0)).drop d.length = u8s (List.replicate (32 - d.length) 0) := by simp only [u8s, List.map_replicate, List.drop_replicate]
  simp only [splice, Ent.cells, padD, List.set_cons_zero, List.take_succ_cons, List.take_zero, u8s_append, u8s_len]
  rw [Nat.add_comm 2, ← e]
  rfl
theorem run_sliceArr0 {P : Program} {f : Slots} {w : World} {d : Option Tmp} {ty : TypeId} {pos : String} {af : Array Edge} {x : Operand} {T E : TypeId} {agg : Bool} {n bytes : Nat} {zs : List Value} {bk off m : Nat} (ht : P.underlying T = some (.array m E)) (hE : Ty P E agg n bytes zs) (hx : ev f x = .pointer (some ⟨bk, off, none⟩)) :
    (execOp (ev f) ⟨d, .slice T x none none none, ty, pos, af, none⟩).run P w = .ok (.value (.slice (some ⟨bk, off, none⟩) m m)) w := by
  rw [run_sliceArr (xl := none) (xh := none) (lo := 0) (hi := m) ht hE hx rfl rfl (Nat.zero_le _) (Nat.le_refl _)]
  simp [cutSl]

theorem entry_at {b p : Nat} {bs a : List UInt8} {bv : Value} {r : Except Int (Ent × Nat)} (hr : entP a bs p = r) (w0 : World) (h : RdOk w0 b bs bv p) (hpl : p ≤ bs.length) (hal : a.length ≤ 9223372036854775807) : Calls Try.prog 50 #[.pointer (some ⟨b, 0, none⟩), str a] w0 (EntR b bv w0 r) := by
  have hlen := h.len
  have hs := Step.append_comm (L1 := [RB b bv p]) (L2 := []) h.own
  unfold entP at hr
  cases h1 : numP bs p with
  | error er =>
    rw [h1] at hr
    refine calls (n := 57) Try.func50 rfl rfl rfl ?_
    refine CW.seq ?_
    refine CW.reg ?_
    refine WL.alloc ty48 rfl hs (fun b4 w hs => ?_)
    refine WL.nil ?_
    refine CW.seq ?_
    refine CW.reg ?_
    refine WL.val rfl (run_move) ?_
    refine WL.enterX (run_call en47 rfl rfl) (num_at h1 _ (h.next (Step.append_comm (L1 := [_]) hs)) hpl) ?_
    rintro e w ⟨p', rfl, hq⟩
    refine ⟨_, rfl, ?_⟩
    exact fin_panic (.err hr.symm (.on (Step.append_comm (L1 := [_]) hs) ⟨p', rfl, hq⟩))
  | ok kp =>
    obtain ⟨k, p1⟩ := kp
    rw [h1] at hr
    have hb1 := numP_ok h1
    have hkb := numP_le h1
    simp only at hr
    have hst : ∀ {L : List (Nat × Obj)} {w1 w2 : World} {q : Nat} {L2 : List (Nat × Obj)}, Step [b] (L ++ [RB b bv q]) w0 w1 → Step [b] L2 w1 w2 → Step [b] (L2 ++ L) w0 w2 := fun h1 h2 => Step.call (L1 := [RB b bv _]) h1.append_comm h2
    by_cases hk : k = 2 ∨ k = 1
    · rw [if_pos hk] at hr
      have hsn : ∀ {w : World} {L : List (Nat × Obj)} {b5 : Nat}, Step [b] ((b5, blk 48 ((Ent.cells ⟨[], k, List.replicate 32 0⟩).set 0 (str []))) :: L) w0 w → Step [b] ((b5, blk 48 (Ent.cells ⟨[], k, List.replicate 32 0⟩)) :: L) w0 w := fun h => h
      cases h2 : bytesP bs p1 with
      | error er =>
        rw [h2] at hr
        rcases hk with rfl | rfl
        · refine calls (n := 57) Try.func50 rfl rfl rfl ?_
          refine CW.seq ?_
          refine CW.reg ?_
          refine WL.alloc ty48 rfl hs (fun b4 w hs => ?_)
          refine WL.nil ?_
          refine CW.seq ?_
          refine CW.reg ?_
          refine WL.val rfl (run_move) ?_
          refine WL.enter rfl (run_call en47 rfl rfl) (num_at h1 _ (h.next (Step.append_comm (L1 := [_]) hs)) hpl) ?_
          rintro e w ⟨rfl, hq⟩
          refine ⟨_, rfl, ?_⟩
          replace hs := (hst (L := [_]) hs hq).append_comm
          refine WL.val rfl (run_build rfl (bld_kind _ _)) ?_
          refine WL.alloc ty48 rfl hs (fun b5 w hs => ?_)
          refine WL.storeAll ty48 rfl rfl (rfl) (Ent.cells1 _) (hs) rfl (fun w hs => ?_)
          refine WL.nil ?_
          refine CW.seq <| CW.seq ?_
          refine CW.reg ?_
          refine WL.val rfl (run_field (o' := 1) Try.underlying48 rfl ty3 rfl rfl rfl) ?_
          refine WL.val rfl (run_load1 ty3 rfl (hs.c0 rfl)) ?_
          refine WL.val rfl (run_bT (run_neq rfl rfl) (by show ((2 : Nat) : Int) ≠ 1; decide)) ?_
          refine WL.val rfl (run_move) ?_
          refine WL.yes rfl rfl rfl ?_
          refine WL.val rfl (run_field (o' := 1) Try.underlying48 rfl ty3 rfl rfl rfl) ?_
          refine WL.yes rfl rfl rfl ?_
          refine WL.val rfl (run_load1 ty3 rfl (hs.c0 rfl)) ?_
          refine WL.yes rfl rfl rfl ?_
          refine WL.val rfl (run_bF (run_neq rfl rfl) (by show ¬ ((2 : Nat) : Int) ≠ 2; decide)) ?_
          refine WL.val rfl (run_pickT rfl) ?_
          refine WL.nil ?_
          repeat (first | refine CW.seq ?_ | refine CW.skip ?_ | refine CW.condF rfl ?_)
          refine CW.reg ?_
          refine WL.val rfl (run_move) ?_
          refine WL.enterX (run_call en70 rfl rfl) (text_at h2 _ (h.next (Step.append_comm (L1 := [_, _]) hs)) (by omega)) ?_
          rintro e w ⟨p', rfl, hq2⟩
          refine ⟨_, rfl, ?_⟩
          exact fin_panic (.err hr.symm (.on (Step.append_comm (L1 := [_, _]) hs) ⟨p', rfl, hq2⟩))
        · refine calls (n := 57) Try.func50 rfl rfl rfl ?_
          refine CW.seq ?_
          refine CW.reg ?_
          refine WL.alloc ty48 rfl hs (fun b4 w hs => ?_)
          refine WL.nil ?_
          refine CW.seq ?_
          refine CW.reg ?_
          refine WL.val rfl (run_move) ?_
          refine WL.enter rfl (run_call en47 rfl rfl) (num_at h1 _ (h.next (Step.append_comm (L1 := [_]) hs)) hpl) ?_
          rintro e w ⟨rfl, hq⟩
          refine ⟨_, rfl, ?_⟩
          replace hs := (hst (L := [_]) hs hq).append_comm
          refine WL.val rfl (run_build rfl (bld_kind _ _)) ?_
          refine WL.alloc ty48 rfl hs (fun b5 w hs => ?_)
          refine WL.storeAll ty48 rfl rfl (rfl) (Ent.cells1 _) (hs) rfl (fun w hs => ?_)
          refine WL.nil ?_
          refine CW.seq <| CW.seq ?_
          refine CW.reg ?_
          refine WL.val rfl (run_field (o' := 1) Try.underlying48 rfl ty3 rfl rfl rfl) ?_
          refine WL.val rfl (run_load1 ty3 rfl (hs.c0 rfl)) ?_
          refine WL.val rfl (run_bF (run_neq rfl rfl) (by show ¬ ((1 : Nat) : Int) ≠ 1; decide)) ?_
          refine WL.val rfl (run_move) ?_
          refine WL.no rfl rfl rfl (.inl rfl) ?_
          refine WL.no rfl rfl rfl (.inl rfl) ?_
          refine WL.no rfl rfl rfl (.inl rfl) ?_
          refine WL.val rfl (run_pickF rfl) ?_
          refine WL.nil ?_
          repeat (first | refine CW.seq ?_ | refine CW.skip ?_ | refine CW.condF rfl ?_)
          refine CW.reg ?_
          refine WL.val rfl (run_move) ?_
          refine WL.enterX (run_call en70 rfl rfl) (text_at h2 _ (h.next (Step.append_comm (L1 := [_, _]) hs)) (by omega)) ?_
          rintro e w ⟨p', rfl, hq2⟩
          refine ⟨_, rfl, ?_⟩
          exact fin_panic (.err hr.symm (.on (Step.append_comm (L1 := [_, _]) hs) ⟨p', rfl, hq2⟩))
      | ok sp =>
        obtain ⟨s, p2⟩ := sp
        rw [h2] at hr
        have hb2 := bytesP_ok h2
        have hsl := bytesP_len h2
        simp only at hr
        by_cases hw : wrongE k s a = 0
        · rw [if_pos hw] at hr
          cases h3 : bytesP bs p2 with
          | error er =>
            rw [h3] at hr
            rcases hk with rfl | rfl
            · refine calls (n := 57) Try.func50 rfl rfl rfl ?_
              refine CW.seq ?_
              refine CW.reg ?_
              refine WL.alloc ty48 rfl hs (fun b4 w hs => ?_)
              refine WL.nil ?_
              refine CW.seq ?_
              refine CW.reg ?_
              refine WL.val rfl (run_move) ?_
              refine WL.enter rfl (run_call en47 rfl rfl) (num_at h1 _ (h.next (Step.append_comm (L1 := [_]) hs)) hpl) ?_
              rintro e w ⟨rfl, hq⟩
              refine ⟨_, rfl, ?_⟩
              replace hs := (hst (L := [_]) hs hq).append_comm
              refine WL.val rfl (run_build rfl (bld_kind _ _)) ?_
              refine WL.alloc ty48 rfl hs (fun b5 w hs => ?_)
              refine WL.storeAll ty48 rfl rfl (rfl) (Ent.cells1 _) (hs) rfl (fun w hs => ?_)
              refine WL.nil ?_
              refine CW.seq <| CW.seq ?_
              refine CW.reg ?_
              refine WL.val rfl (run_field (o' := 1) Try.underlying48 rfl ty3 rfl rfl rfl) ?_
              refine WL.val rfl (run_load1 ty3 rfl (hs.c0 rfl)) ?_
              refine WL.val rfl (run_bT (run_neq rfl rfl) (by show ((2 : Nat) : Int) ≠ 1; decide)) ?_
              refine WL.val rfl (run_move) ?_
              refine WL.yes rfl rfl rfl ?_
              refine WL.val rfl (run_field (o' := 1) Try.underlying48 rfl ty3 rfl rfl rfl) ?_
              refine WL.yes rfl rfl rfl ?_
              refine WL.val rfl (run_load1 ty3 rfl (hs.c0 rfl)) ?_
              refine WL.yes rfl rfl rfl ?_
              refine WL.val rfl (run_bF (run_neq rfl rfl) (by show ¬ ((2 : Nat) : Int) ≠ 2; decide)) ?_
              refine WL.val rfl (run_pickT rfl) ?_
              refine WL.nil ?_
              repeat (first | refine CW.seq ?_ | refine CW.skip ?_ | refine CW.condF rfl ?_)
              refine CW.reg ?_
              refine WL.val rfl (run_move) ?_
              refine WL.enter rfl (run_call en70 rfl rfl) (text_at h2 _ (h.next (Step.append_comm (L1 := [_, _]) hs)) (by omega)) ?_
              rintro e w ⟨rfl, hq2⟩
              refine ⟨_, rfl, ?_⟩
              replace hs := (hst (L := [_, _]) hs hq2).append_comm
              refine WL.val rfl (run_field (o' := 0) Try.underlying48 rfl ty9 rfl rfl rfl) ?_
              refine WL.store1 ty9 rfl rfl (rfl) (hs) (by first | (simp; done) | omega | (simp only [List.length_append, List.length_replicate, List.length_cons, List.length_nil, List.length_set]; omega) | (simp [Ent.cells, u8s]; done) | exact Nat.le_of_ble_eq_true rfl) (fun w hs => ?_)
              refine WL.nil ?_
              refine CW.seq ?_
              refine CW.reg ?_
              refine WL.val rfl (run_move) ?_
              refine WL.val rfl (run_field (o' := 1) Try.underlying48 rfl ty3 rfl rfl rfl) ?_
              refine WL.val rfl (run_load1 ty3 rfl (hs.c0 rfl)) ?_
              refine WL.val rfl (run_field (o' := 0) Try.underlying48 rfl ty9 rfl rfl rfl) ?_
              refine WL.val rfl (run_load1 ty9 rfl (hs.c0 rfl)) ?_
              refine WL.val rfl (run_move) ?_
              refine WL.enter rfl (run_call en34 rfl rfl) (wrong_spec hw _ (by omega)) ?_
              rintro e w ⟨rfl, hq3⟩
              refine ⟨_, rfl, ?_⟩
              replace hs := hs.callE hq3
              refine WL.enter rfl (run_call en48 rfl rfl) (fail_none (bs := bs) _ (h.next (Step.append_comm (L1 := [_, _]) hs))) ?_
              rintro e w ⟨rfl, hq4⟩
              refine ⟨_, rfl, ?_⟩
              replace hs := (hst (L := [_, _]) hs hq4).append_comm
              refine WL.nil ?_
              refine CW.seq ?_
              refine CW.reg ?_
              refine WL.val rfl (run_move) ?_
              refine WL.enterX (run_call en71 rfl rfl) (bytes_at h3 _ (h.next (Step.append_comm (L1 := [_, _]) hs)) (by omega)) ?_
              rintro e w ⟨p', rfl, hq5⟩
              refine ⟨_, rfl, ?_⟩
              exact fin_panic (.err hr.symm (.on (Step.append_comm (L1 := [_, _]) hs) ⟨p', rfl, hq5⟩))
            · refine calls (n := 57) Try.func50 rfl rfl rfl ?_
              refine CW.seq ?_
              refine CW.reg ?_
              refine WL.alloc ty48 rfl hs (fun b4 w hs => ?_)
              refine WL.nil ?_
              refine CW.seq ?_
              refine CW.reg ?_
              refine WL.val rfl (run_move) ?_
              refine WL.enter rfl (run_call en47 rfl rfl) (num_at h1 _ (h.next (Step.append_comm (L1 := [_]) hs)) hpl) ?_
              rintro e w ⟨rfl, hq⟩
              refine ⟨_, rfl, ?_⟩
              replace hs := (hst (L := [_]) hs hq).append_comm
              refine WL.val rfl (run_build rfl (bld_kind _ _)) ?_
              refine WL.alloc ty48 rfl hs (fun b5 w hs => ?_)
              refine WL.storeAll ty48 rfl rfl (rfl) (Ent.cells1 _) (hs) rfl (fun w hs => ?_)
              refine WL.nil ?_
              refine CW.seq <| CW.seq ?_
              refine CW.reg ?_
              refine WL.val rfl (run_field (o' := 1) Try.underlying48 rfl ty3 rfl rfl rfl) ?_
              refine WL.val rfl (run_load1 ty3 rfl (hs.c0 rfl)) ?_
              refine WL.val rfl (run_bF (run_neq rfl rfl) (by show ¬ ((1 : Nat) : Int) ≠ 1; decide)) ?_
              refine WL.val rfl (run_move) ?_
              refine WL.no rfl rfl rfl (.inl rfl) ?_
              refine WL.no rfl rfl rfl (.inl rfl) ?_
              refine WL.no rfl rfl rfl (.inl rfl) ?_
              refine WL.val rfl (run_pickF rfl) ?_
              refine WL.nil ?_
              repeat (first | refine CW.seq ?_ | refine CW.skip ?_ | refine CW.condF rfl ?_)
              refine CW.reg ?_
              refine WL.val rfl (run_move) ?_
              refine WL.enter rfl (run_call en70 rfl rfl) (text_at h2 _ (h.next (Step.append_comm (L1 := [_, _]) hs)) (by omega)) ?_
              rintro e w ⟨rfl, hq2⟩
              refine ⟨_, rfl, ?_⟩
              replace hs := (hst (L := [_, _]) hs hq2).append_comm
              refine WL.val rfl (run_field (o' := 0) Try.underlying48 rfl ty9 rfl rfl rfl) ?_
              refine WL.store1 ty9 rfl rfl (rfl) (hs) (by first | (simp; done) | omega | (simp only [List.length_append, List.length_replicate, List.length_cons, List.length_nil, List.length_set]; omega) | (simp [Ent.cells, u8s]; done) | exact Nat.le_of_ble_eq_true rfl) (fun w hs => ?_)
              refine WL.nil ?_
              refine CW.seq ?_
              refine CW.reg ?_
              refine WL.val rfl (run_move) ?_
              refine WL.val rfl (run_field (o' := 1) Try.underlying48 rfl ty3 rfl rfl rfl) ?_
              refine WL.val rfl (run_load1 ty3 rfl (hs.c0 rfl)) ?_
              refine WL.val rfl (run_field (o' := 0) Try.underlying48 rfl ty9 rfl rfl rfl) ?_
              refine WL.val rfl (run_load1 ty9 rfl (hs.c0 rfl)) ?_
              refine WL.val rfl (run_move) ?_
              refine WL.enter rfl (run_call en34 rfl rfl) (wrong_spec hw _ (by omega)) ?_
              rintro e w ⟨rfl, hq3⟩
              refine ⟨_, rfl, ?_⟩
              replace hs := hs.callE hq3
              refine WL.enter rfl (run_call en48 rfl rfl) (fail_none (bs := bs) _ (h.next (Step.append_comm (L1 := [_, _]) hs))) ?_
              rintro e w ⟨rfl, hq4⟩
              refine ⟨_, rfl, ?_⟩
              replace hs := (hst (L := [_, _]) hs hq4).append_comm
              refine WL.nil ?_
              refine CW.seq ?_
              refine CW.reg ?_
              refine WL.val rfl (run_move) ?_
              refine WL.enterX (run_call en71 rfl rfl) (bytes_at h3 _ (h.next (Step.append_comm (L1 := [_, _]) hs)) (by omega)) ?_
              rintro e w ⟨p', rfl, hq5⟩
              refine ⟨_, rfl, ?_⟩
              exact fin_panic (.err hr.symm (.on (Step.append_comm (L1 := [_, _]) hs) ⟨p', rfl, hq5⟩))
          | ok dp =>
            obtain ⟨d, p3⟩ := dp
            rw [h3] at hr
            have hb3 := bytesP_ok h3
            have hdl := bytesP_len h3
            simp only at hr
            by_cases hd1 : 32 < d.length
            · rw [if_pos (show badD d from .inl hd1)] at hr
              rcases hk with rfl | rfl
              · refine calls (n := 57) Try.func50 rfl rfl rfl ?_
                refine CW.seq ?_
                refine CW.reg ?_
                refine WL.alloc ty48 rfl hs (fun b4 w hs => ?_)
                refine WL.nil ?_
                refine CW.seq ?_
                refine CW.reg ?_
                refine WL.val rfl (run_move) ?_
                refine WL.enter rfl (run_call en47 rfl rfl) (num_at h1 _ (h.next (Step.append_comm (L1 := [_]) hs)) hpl) ?_
                rintro e w ⟨rfl, hq⟩
                refine ⟨_, rfl, ?_⟩
                replace hs := (hst (L := [_]) hs hq).append_comm
                refine WL.val rfl (run_build rfl (bld_kind _ _)) ?_
                refine WL.alloc ty48 rfl hs (fun b5 w hs => ?_)
                refine WL.storeAll ty48 rfl rfl (rfl) (Ent.cells1 _) (hs) rfl (fun w hs => ?_)
                refine WL.nil ?_
                refine CW.seq <| CW.seq ?_
                refine CW.reg ?_
                refine WL.val rfl (run_field (o' := 1) Try.underlying48 rfl ty3 rfl rfl rfl) ?_
                refine WL.val rfl (run_load1 ty3 rfl (hs.c0 rfl)) ?_
                refine WL.val rfl (run_bT (run_neq rfl rfl) (by show ((2 : Nat) : Int) ≠ 1; decide)) ?_
                refine WL.val rfl (run_move) ?_
                refine WL.yes rfl rfl rfl ?_
                refine WL.val rfl (run_field (o' := 1) Try.underlying48 rfl ty3 rfl rfl rfl) ?_
                refine WL.yes rfl rfl rfl ?_
                refine WL.val rfl (run_load1 ty3 rfl (hs.c0 rfl)) ?_
                refine WL.yes rfl rfl rfl ?_
                refine WL.val rfl (run_bF (run_neq rfl rfl) (by show ¬ ((2 : Nat) : Int) ≠ 2; decide)) ?_
                refine WL.val rfl (run_pickT rfl) ?_
                refine WL.nil ?_
                repeat (first | refine CW.seq ?_ | refine CW.skip ?_ | refine CW.condF rfl ?_)
                refine CW.reg ?_
                refine WL.val rfl (run_move) ?_
                refine WL.enter rfl (run_call en70 rfl rfl) (text_at h2 _ (h.next (Step.append_comm (L1 := [_, _]) hs)) (by omega)) ?_
                rintro e w ⟨rfl, hq2⟩
                refine ⟨_, rfl, ?_⟩
                replace hs := (hst (L := [_, _]) hs hq2).append_comm
                refine WL.val rfl (run_field (o' := 0) Try.underlying48 rfl ty9 rfl rfl rfl) ?_
                refine WL.store1 ty9 rfl rfl (rfl) (hs) (by first | (simp; done) | omega | (simp only [List.length_append, List.length_replicate, List.length_cons, List.length_nil, List.length_set]; omega) | (simp [Ent.cells, u8s]; done) | exact Nat.le_of_ble_eq_true rfl) (fun w hs => ?_)
                refine WL.nil ?_
                refine CW.seq ?_
                refine CW.reg ?_
                refine WL.val rfl (run_move) ?_
                refine WL.val rfl (run_field (o' := 1) Try.underlying48 rfl ty3 rfl rfl rfl) ?_
                refine WL.val rfl (run_load1 ty3 rfl (hs.c0 rfl)) ?_
                refine WL.val rfl (run_field (o' := 0) Try.underlying48 rfl ty9 rfl rfl rfl) ?_
                refine WL.val rfl (run_load1 ty9 rfl (hs.c0 rfl)) ?_
                refine WL.val rfl (run_move) ?_
                refine WL.enter rfl (run_call en34 rfl rfl) (wrong_spec hw _ (by omega)) ?_
                rintro e w ⟨rfl, hq3⟩
                refine ⟨_, rfl, ?_⟩
                replace hs := hs.callE hq3
                refine WL.enter rfl (run_call en48 rfl rfl) (fail_none (bs := bs) _ (h.next (Step.append_comm (L1 := [_, _]) hs))) ?_
                rintro e w ⟨rfl, hq4⟩
                refine ⟨_, rfl, ?_⟩
                replace hs := (hst (L := [_, _]) hs hq4).append_comm
                refine WL.nil ?_
                refine CW.seq ?_
                refine CW.reg ?_
                refine WL.val rfl (run_move) ?_
                refine WL.enter rfl (run_call en71 rfl rfl) (bytes_at h3 _ (h.next (Step.append_comm (L1 := [_, _]) hs)) (by omega)) ?_
                rintro e w ⟨v, Lv, rfl, hv, hq5⟩
                refine ⟨_, rfl, ?_⟩
                have hobt := hv.form
                obtain ⟨va, vc, rfl⟩ := hobt
                replace hs := (hst (L := [_, _]) hs hq5).append_comm
                refine WL.val rfl (run_assign) ?_
                refine WL.nil ?_
                have hvs := fun (w : World) (hs : Step [b] Lv w0 w) => hv.sl (S := [b]) (L := []) (w0 := w0) (w := w) (by rw [List.append_nil]; exact hs)
                refine CW.seq <| CW.seq ?_
                refine CW.reg ?_
                refine WL.val rfl (run_move) ?_
                refine WL.val rfl (run_lenSl Try.underlying29 rfl) ?_
                refine WL.val rfl (run_bT (run_gtr rfl rfl) (by omega)) ?_
                refine WL.val rfl (run_move) ?_
                refine WL.no rfl rfl rfl (.inl rfl) ?_
                refine WL.no rfl rfl rfl (.inl rfl) ?_
                refine WL.no rfl rfl rfl (.inl rfl) ?_
                refine WL.no rfl rfl rfl (.inl rfl) ?_
                refine WL.no rfl rfl rfl (.inr rfl) ?_
                refine WL.no rfl rfl rfl (.inr rfl) ?_
                refine WL.no rfl rfl rfl (.inr rfl) ?_
                refine WL.no rfl rfl rfl (.inr rfl) ?_
                refine WL.no rfl rfl rfl (.inr rfl) ?_
                refine WL.no rfl rfl rfl (.inr rfl) ?_
                refine WL.no rfl rfl rfl (.inr rfl) ?_
                refine WL.no rfl rfl rfl (.inl rfl) ?_
                refine WL.val rfl (run_pickT rfl) ?_
                refine WL.nil ?_
                refine CW.condT rfl ?_
                refine CW.reg ?_
                refine WL.val rfl (run_move) ?_
                refine WL.enterX (run_call en48 rfl rfl) (fail_throw (bs := bs) (er := 51) _ (h.next (Step.append_comm (L1 := [_, _]) hs)) (by decide)) ?_
                rintro e w ⟨p', rfl, hq6⟩
                refine ⟨_, rfl, ?_⟩
                exact fin_panic (.err hr.symm (.on (Step.append_comm (L1 := [_, _]) hs) ⟨p', rfl, hq6⟩))
              · refine calls (n := 57) Try.func50 rfl rfl rfl ?_
                refine CW.seq ?_
                refine CW.reg ?_
                refine WL.alloc ty48 rfl hs (fun b4 w hs => ?_)
                refine WL.nil ?_
                refine CW.seq ?_
                refine CW.reg ?_
                refine WL.val rfl (run_move) ?_
                refine WL.enter rfl (run_call en47 rfl rfl) (num_at h1 _ (h.next (Step.append_comm (L1 := [_]) hs)) hpl) ?_
                rintro e w ⟨rfl, hq⟩
                refine ⟨_, rfl, ?_⟩
                replace hs := (hst (L := [_]) hs hq).append_comm
                refine WL.val rfl (run_build rfl (bld_kind _ _)) ?_
                refine WL.alloc ty48 rfl hs (fun b5 w hs => ?_)
                refine WL.storeAll ty48 rfl rfl (rfl) (Ent.cells1 _) (hs) rfl (fun w hs => ?_)
                refine WL.nil ?_
                refine CW.seq <| CW.seq ?_
                refine CW.reg ?_
                refine WL.val rfl (run_field (o' := 1) Try.underlying48 rfl ty3 rfl rfl rfl) ?_
                refine WL.val rfl (run_load1 ty3 rfl (hs.c0 rfl)) ?_
                refine WL.val rfl (run_bF (run_neq rfl rfl) (by show ¬ ((1 : Nat) : Int) ≠ 1; decide)) ?_
                refine WL.val rfl (run_move) ?_
                refine WL.no rfl rfl rfl (.inl rfl) ?_
                refine WL.no rfl rfl rfl (.inl rfl) ?_
                refine WL.no rfl rfl rfl (.inl rfl) ?_
                refine WL.val rfl (run_pickF rfl) ?_
                refine WL.nil ?_
                repeat (first | refine CW.seq ?_ | refine CW.skip ?_ | refine CW.condF rfl ?_)
                refine CW.reg ?_
                refine WL.val rfl (run_move) ?_
                refine WL.enter rfl (run_call en70 rfl rfl) (text_at h2 _ (h.next (Step.append_comm (L1 := [_, _]) hs)) (by omega)) ?_
                rintro e w ⟨rfl, hq2⟩
                refine ⟨_, rfl, ?_⟩
                replace hs := (hst (L := [_, _]) hs hq2).append_comm
                refine WL.val rfl (run_field (o' := 0) Try.underlying48 rfl ty9 rfl rfl rfl) ?_
                refine WL.store1 ty9 rfl rfl (rfl) (hs) (by first | (simp; done) | omega | (simp only [List.length_append, List.length_replicate, List.length_cons, List.length_nil, List.length_set]; omega) | (simp [Ent.cells, u8s]; done) | exact Nat.le_of_ble_eq_true rfl) (fun w hs => ?_)
                refine WL.nil ?_
                refine CW.seq ?_
                refine CW.reg ?_
                refine WL.val rfl (run_move) ?_
                refine WL.val rfl (run_field (o' := 1) Try.underlying48 rfl ty3 rfl rfl rfl) ?_
                refine WL.val rfl (run_load1 ty3 rfl (hs.c0 rfl)) ?_
                refine WL.val rfl (run_field (o' := 0) Try.underlying48 rfl ty9 rfl rfl rfl) ?_
                refine WL.val rfl (run_load1 ty9 rfl (hs.c0 rfl)) ?_
                refine WL.val rfl (run_move) ?_
                refine WL.enter rfl (run_call en34 rfl rfl) (wrong_spec hw _ (by omega)) ?_
                rintro e w ⟨rfl, hq3⟩
                refine ⟨_, rfl, ?_⟩
                replace hs := hs.callE hq3
                refine WL.enter rfl (run_call en48 rfl rfl) (fail_none (bs := bs) _ (h.next (Step.append_comm (L1 := [_, _]) hs))) ?_
                rintro e w ⟨rfl, hq4⟩
                refine ⟨_, rfl, ?_⟩
                replace hs := (hst (L := [_, _]) hs hq4).append_comm
                refine WL.nil ?_
                refine CW.seq ?_
                refine CW.reg ?_
                refine WL.val rfl (run_move) ?_
                refine WL.enter rfl (run_call en71 rfl rfl) (bytes_at h3 _ (h.next (Step.append_comm (L1 := [_, _]) hs)) (by omega)) ?_
                rintro e w ⟨v, Lv, rfl, hv, hq5⟩
                refine ⟨_, rfl, ?_⟩
                have hobt := hv.form
                obtain ⟨va, vc, rfl⟩ := hobt
                replace hs := (hst (L := [_, _]) hs hq5).append_comm
                refine WL.val rfl (run_assign) ?_
                refine WL.nil ?_
                have hvs := fun (w : World) (hs : Step [b] Lv w0 w) => hv.sl (S := [b]) (L := []) (w0 := w0) (w := w) (by rw [List.append_nil]; exact hs)
                refine CW.seq <| CW.seq ?_
                refine CW.reg ?_
                refine WL.val rfl (run_move) ?_
                refine WL.val rfl (run_lenSl Try.underlying29 rfl) ?_
                refine WL.val rfl (run_bT (run_gtr rfl rfl) (by omega)) ?_
                refine WL.val rfl (run_move) ?_
                refine WL.no rfl rfl rfl (.inl rfl) ?_
                refine WL.no rfl rfl rfl (.inl rfl) ?_
                refine WL.no rfl rfl rfl (.inl rfl) ?_
                refine WL.no rfl rfl rfl (.inl rfl) ?_
                refine WL.no rfl rfl rfl (.inr rfl) ?_
                refine WL.no rfl rfl rfl (.inr rfl) ?_
                refine WL.no rfl rfl rfl (.inr rfl) ?_
                refine WL.no rfl rfl rfl (.inr rfl) ?_
                refine WL.no rfl rfl rfl (.inr rfl) ?_
                refine WL.no rfl rfl rfl (.inr rfl) ?_
                refine WL.no rfl rfl rfl (.inr rfl) ?_
                refine WL.no rfl rfl rfl (.inl rfl) ?_
                refine WL.val rfl (run_pickT rfl) ?_
                refine WL.nil ?_
                refine CW.condT rfl ?_
                refine CW.reg ?_
                refine WL.val rfl (run_move) ?_
                refine WL.enterX (run_call en48 rfl rfl) (fail_throw (bs := bs) (er := 51) _ (h.next (Step.append_comm (L1 := [_, _]) hs)) (by decide)) ?_
                rintro e w ⟨p', rfl, hq6⟩
                refine ⟨_, rfl, ?_⟩
                exact fin_panic (.err hr.symm (.on (Step.append_comm (L1 := [_, _]) hs) ⟨p', rfl, hq6⟩))
            · by_cases hd2 : d.length = 0
              · rw [if_neg (show ¬ badD d from fun h => h.elim hd1 (fun h => by omega))] at hr
                rcases hk with rfl | rfl
                · refine calls (n := 57) Try.func50 rfl rfl rfl ?_
                  refine CW.seq ?_
                  refine CW.reg ?_
                  refine WL.alloc ty48 rfl hs (fun b4 w hs => ?_)
                  refine WL.nil ?_
                  refine CW.seq ?_
                  refine CW.reg ?_
                  refine WL.val rfl (run_move) ?_
                  refine WL.enter rfl (run_call en47 rfl rfl) (num_at h1 _ (h.next (Step.append_comm (L1 := [_]) hs)) hpl) ?_
                  rintro e w ⟨rfl, hq⟩
                  refine ⟨_, rfl, ?_⟩
                  replace hs := (hst (L := [_]) hs hq).append_comm
                  refine WL.val rfl (run_build rfl (bld_kind _ _)) ?_
                  refine WL.alloc ty48 rfl hs (fun b5 w hs => ?_)
                  refine WL.storeAll ty48 rfl rfl (rfl) (Ent.cells1 _) (hs) rfl (fun w hs => ?_)
                  refine WL.nil ?_
                  refine CW.seq <| CW.seq ?_
                  refine CW.reg ?_
                  refine WL.val rfl (run_field (o' := 1) Try.underlying48 rfl ty3 rfl rfl rfl) ?_
                  refine WL.val rfl (run_load1 ty3 rfl (hs.c0 rfl)) ?_
                  refine WL.val rfl (run_bT (run_neq rfl rfl) (by show ((2 : Nat) : Int) ≠ 1; decide)) ?_
                  refine WL.val rfl (run_move) ?_
                  refine WL.yes rfl rfl rfl ?_
                  refine WL.val rfl (run_field (o' := 1) Try.underlying48 rfl ty3 rfl rfl rfl) ?_
                  refine WL.yes rfl rfl rfl ?_
                  refine WL.val rfl (run_load1 ty3 rfl (hs.c0 rfl)) ?_
                  refine WL.yes rfl rfl rfl ?_
                  refine WL.val rfl (run_bF (run_neq rfl rfl) (by show ¬ ((2 : Nat) : Int) ≠ 2; decide)) ?_
                  refine WL.val rfl (run_pickT rfl) ?_
                  refine WL.nil ?_
                  repeat (first | refine CW.seq ?_ | refine CW.skip ?_ | refine CW.condF rfl ?_)
                  refine CW.reg ?_
                  refine WL.val rfl (run_move) ?_
                  refine WL.enter rfl (run_call en70 rfl rfl) (text_at h2 _ (h.next (Step.append_comm (L1 := [_, _]) hs)) (by omega)) ?_
                  rintro e w ⟨rfl, hq2⟩
                  refine ⟨_, rfl, ?_⟩
                  replace hs := (hst (L := [_, _]) hs hq2).append_comm
                  refine WL.val rfl (run_field (o' := 0) Try.underlying48 rfl ty9 rfl rfl rfl) ?_
                  refine WL.store1 ty9 rfl rfl (rfl) (hs) (by first | (simp; done) | omega | (simp only [List.length_append, List.length_replicate, List.length_cons, List.length_nil, List.length_set]; omega) | (simp [Ent.cells, u8s]; done) | exact Nat.le_of_ble_eq_true rfl) (fun w hs => ?_)
                  refine WL.nil ?_
                  refine CW.seq ?_
                  refine CW.reg ?_
                  refine WL.val rfl (run_move) ?_
                  refine WL.val rfl (run_field (o' := 1) Try.underlying48 rfl ty3 rfl rfl rfl) ?_
                  refine WL.val rfl (run_load1 ty3 rfl (hs.c0 rfl)) ?_
                  refine WL.val rfl (run_field (o' := 0) Try.underlying48 rfl ty9 rfl rfl rfl) ?_
                  refine WL.val rfl (run_load1 ty9 rfl (hs.c0 rfl)) ?_
                  refine WL.val rfl (run_move) ?_
                  refine WL.enter rfl (run_call en34 rfl rfl) (wrong_spec hw _ (by omega)) ?_
                  rintro e w ⟨rfl, hq3⟩
                  refine ⟨_, rfl, ?_⟩
                  replace hs := hs.callE hq3
                  refine WL.enter rfl (run_call en48 rfl rfl) (fail_none (bs := bs) _ (h.next (Step.append_comm (L1 := [_, _]) hs))) ?_
                  rintro e w ⟨rfl, hq4⟩
                  refine ⟨_, rfl, ?_⟩
                  replace hs := (hst (L := [_, _]) hs hq4).append_comm
                  refine WL.nil ?_
                  refine CW.seq ?_
                  refine CW.reg ?_
                  refine WL.val rfl (run_move) ?_
                  refine WL.enter rfl (run_call en71 rfl rfl) (bytes_at h3 _ (h.next (Step.append_comm (L1 := [_, _]) hs)) (by omega)) ?_
                  rintro e w ⟨v, Lv, rfl, hv, hq5⟩
                  refine ⟨_, rfl, ?_⟩
                  have hobt := hv.form
                  obtain ⟨va, vc, rfl⟩ := hobt
                  replace hs := (hst (L := [_, _]) hs hq5).append_comm
                  refine WL.val rfl (run_assign) ?_
                  refine WL.nil ?_
                  have hvs := fun (w : World) (hs : Step [b] Lv w0 w) => hv.sl (S := [b]) (L := []) (w0 := w0) (w := w) (by rw [List.append_nil]; exact hs)
                  refine CW.seq <| CW.seq ?_
                  refine CW.reg ?_
                  refine WL.val rfl (run_move) ?_
                  refine WL.val rfl (run_lenSl Try.underlying29 rfl) ?_
                  refine WL.val rfl (run_bF (run_gtr rfl rfl) (by omega)) ?_
                  refine WL.val rfl (run_move) ?_
                  refine WL.yes rfl rfl rfl ?_
                  refine WL.val rfl (run_move) ?_
                  refine WL.yes rfl rfl rfl ?_
                  refine WL.val rfl (run_lenSl Try.underlying29 rfl) ?_
                  refine WL.yes rfl rfl rfl ?_
                  refine WL.val rfl (run_bF (run_gtr rfl rfl) (by omega)) ?_
                  refine WL.yes rfl rfl rfl ?_
                  refine WL.val rfl (run_move) ?_
                  refine WL.no rfl rfl rfl (.inl rfl) ?_
                  refine WL.no rfl rfl rfl (.inl rfl) ?_
                  refine WL.no rfl rfl rfl (.inl rfl) ?_
                  refine WL.no rfl rfl rfl (.inl rfl) ?_
                  refine WL.no rfl rfl rfl (.inl rfl) ?_
                  refine WL.no rfl rfl rfl (.inl rfl) ?_
                  refine WL.no rfl rfl rfl (.inl rfl) ?_
                  refine WL.yes rfl rfl rfl ?_
                  refine WL.val rfl (run_pickF rfl) ?_
                  refine WL.val rfl (run_pickF rfl) ?_
                  refine WL.nil ?_
                  repeat (first | refine CW.seq ?_ | refine CW.skip ?_ | refine CW.condF rfl ?_)
                  refine CW.reg ?_
                  refine WL.val rfl (run_field (o' := 2) Try.underlying48 rfl ty46 rfl rfl rfl) ?_
                  refine WL.val rfl (run_sliceArr0 Try.underlying46 ty5 rfl) ?_
                  refine WL.val rfl (run_move) ?_
                  refine WL.copy Try.underlying29 ty5 rfl rfl (hs) ((hvs _ (Step.dropL (L1 := [_, _, _]) hs))) (Cells1.u8s d) (by first | omega | exact Nat.le_of_ble_eq_true rfl | (simp [Ent.cells, u8s]; done)) (fun k hk => by cases hk; rfl) (fun w hs => ⟨fun k hk => ?_, fun h => by cases h⟩)
                  cases hk
                  refine WL.nil ?_
                  replace hs := hs.cast (pad_splice _ s d (by omega))
                  have hpl : ∀ k : Nat, (Ent.cells ⟨s, k, padD d⟩).length = 34 := fun k => by simp [Ent.cells, u8s, padD]; omega
                  refine CW.seq ?_
                  refine CW.reg ?_
                  refine WL.val rfl (run_loadN ty48 rfl (hpl _) hs.a0) ?_
                  refine WL.storeAll ty48 rfl rfl (hpl _) (Ent.cells1 _) (hs.swap) rfl (fun w hs => ?_)
                  refine WL.nil ?_
                  refine CW.ret ?_
                  refine fin_cell1 rfl rfl (run_loadVarN ty48 (hpl _) hs.a0) ?_
                  exact .ok hr.symm rfl (Step.dropR (L1 := [_]) (Step.dropL (L1 := [_, _]) hs))
                · refine calls (n := 57) Try.func50 rfl rfl rfl ?_
                  refine CW.seq ?_
                  refine CW.reg ?_
                  refine WL.alloc ty48 rfl hs (fun b4 w hs => ?_)
                  refine WL.nil ?_
                  refine CW.seq ?_
                  refine CW.reg ?_
                  refine WL.val rfl (run_move) ?_
                  refine WL.enter rfl (run_call en47 rfl rfl) (num_at h1 _ (h.next (Step.append_comm (L1 := [_]) hs)) hpl) ?_
                  rintro e w ⟨rfl, hq⟩
                  refine ⟨_, rfl, ?_⟩
                  replace hs := (hst (L := [_]) hs hq).append_comm
                  refine WL.val rfl (run_build rfl (bld_kind _ _)) ?_
                  refine WL.alloc ty48 rfl hs (fun b5 w hs => ?_)
                  refine WL.storeAll ty48 rfl rfl (rfl) (Ent.cells1 _) (hs) rfl (fun w hs => ?_)
                  refine WL.nil ?_
                  refine CW.seq <| CW.seq ?_
                  refine CW.reg ?_
                  refine WL.val rfl (run_field (o' := 1) Try.underlying48 rfl ty3 rfl rfl rfl) ?_
                  refine WL.val rfl (run_load1 ty3 rfl (hs.c0 rfl)) ?_
                  refine WL.val rfl (run_bF (run_neq rfl rfl) (by show ¬ ((1 : Nat) : Int) ≠ 1; decide)) ?_
                  refine WL.val rfl (run_move) ?_
                  refine WL.no rfl rfl rfl (.inl rfl) ?_
                  refine WL.no rfl rfl rfl (.inl rfl) ?_
                  refine WL.no rfl rfl rfl (.inl rfl) ?_
                  refine WL.val rfl (run_pickF rfl) ?_
                  refine WL.nil ?_
                  repeat (first | refine CW.seq ?_ | refine CW.skip ?_ | refine CW.condF rfl ?_)
                  refine CW.reg ?_
                  refine WL.val rfl (run_move) ?_
                  refine WL.enter rfl (run_call en70 rfl rfl) (text_at h2 _ (h.next (Step.append_comm (L1 := [_, _]) hs)) (by omega)) ?_
                  rintro e w ⟨rfl, hq2⟩
                  refine ⟨_, rfl, ?_⟩
                  replace hs := (hst (L := [_, _]) hs hq2).append_comm
                  refine WL.val rfl (run_field (o' := 0) Try.underlying48 rfl ty9 rfl rfl rfl) ?_
                  refine WL.store1 ty9 rfl rfl (rfl) (hs) (by first | (simp; done) | omega | (simp only [List.length_append, List.length_replicate, List.length_cons, List.length_nil, List.length_set]; omega) | (simp [Ent.cells, u8s]; done) | exact Nat.le_of_ble_eq_true rfl) (fun w hs => ?_)
                  refine WL.nil ?_
                  refine CW.seq ?_
                  refine CW.reg ?_
                  refine WL.val rfl (run_move) ?_
                  refine WL.val rfl (run_field (o' := 1) Try.underlying48 rfl ty3 rfl rfl rfl) ?_
                  refine WL.val rfl (run_load1 ty3 rfl (hs.c0 rfl)) ?_
                  refine WL.val rfl (run_field (o' := 0) Try.underlying48 rfl ty9 rfl rfl rfl) ?_
                  refine WL.val rfl (run_load1 ty9 rfl (hs.c0 rfl)) ?_
                  refine WL.val rfl (run_move) ?_
                  refine WL.enter rfl (run_call en34 rfl rfl) (wrong_spec hw _ (by omega)) ?_
                  rintro e w ⟨rfl, hq3⟩
                  refine ⟨_, rfl, ?_⟩
                  replace hs := hs.callE hq3
                  refine WL.enter rfl (run_call en48 rfl rfl) (fail_none (bs := bs) _ (h.next (Step.append_comm (L1 := [_, _]) hs))) ?_
                  rintro e w ⟨rfl, hq4⟩
                  refine ⟨_, rfl, ?_⟩
                  replace hs := (hst (L := [_, _]) hs hq4).append_comm
                  refine WL.nil ?_
                  refine CW.seq ?_
                  refine CW.reg ?_
                  refine WL.val rfl (run_move) ?_
                  refine WL.enter rfl (run_call en71 rfl rfl) (bytes_at h3 _ (h.next (Step.append_comm (L1 := [_, _]) hs)) (by omega)) ?_
                  rintro e w ⟨v, Lv, rfl, hv, hq5⟩
                  refine ⟨_, rfl, ?_⟩
                  have hobt := hv.form
                  obtain ⟨va, vc, rfl⟩ := hobt
                  replace hs := (hst (L := [_, _]) hs hq5).append_comm
                  refine WL.val rfl (run_assign) ?_
                  refine WL.nil ?_
                  have hvs := fun (w : World) (hs : Step [b] Lv w0 w) => hv.sl (S := [b]) (L := []) (w0 := w0) (w := w) (by rw [List.append_nil]; exact hs)
                  refine CW.seq <| CW.seq ?_
                  refine CW.reg ?_
                  refine WL.val rfl (run_move) ?_
                  refine WL.val rfl (run_lenSl Try.underlying29 rfl) ?_
                  refine WL.val rfl (run_bF (run_gtr rfl rfl) (by omega)) ?_
                  refine WL.val rfl (run_move) ?_
                  refine WL.yes rfl rfl rfl ?_
                  refine WL.val rfl (run_move) ?_
                  refine WL.yes rfl rfl rfl ?_
                  refine WL.val rfl (run_lenSl Try.underlying29 rfl) ?_
                  refine WL.yes rfl rfl rfl ?_
                  refine WL.val rfl (run_bF (run_gtr rfl rfl) (by omega)) ?_
                  refine WL.yes rfl rfl rfl ?_
                  refine WL.val rfl (run_move) ?_
                  refine WL.no rfl rfl rfl (.inl rfl) ?_
                  refine WL.no rfl rfl rfl (.inl rfl) ?_
                  refine WL.no rfl rfl rfl (.inl rfl) ?_
                  refine WL.no rfl rfl rfl (.inl rfl) ?_
                  refine WL.no rfl rfl rfl (.inl rfl) ?_
                  refine WL.no rfl rfl rfl (.inl rfl) ?_
                  refine WL.no rfl rfl rfl (.inl rfl) ?_
                  refine WL.yes rfl rfl rfl ?_
                  refine WL.val rfl (run_pickF rfl) ?_
                  refine WL.val rfl (run_pickF rfl) ?_
                  refine WL.nil ?_
                  repeat (first | refine CW.seq ?_ | refine CW.skip ?_ | refine CW.condF rfl ?_)
                  refine CW.reg ?_
                  refine WL.val rfl (run_field (o' := 2) Try.underlying48 rfl ty46 rfl rfl rfl) ?_
                  refine WL.val rfl (run_sliceArr0 Try.underlying46 ty5 rfl) ?_
                  refine WL.val rfl (run_move) ?_
                  refine WL.copy Try.underlying29 ty5 rfl rfl (hs) ((hvs _ (Step.dropL (L1 := [_, _, _]) hs))) (Cells1.u8s d) (by first | omega | exact Nat.le_of_ble_eq_true rfl | (simp [Ent.cells, u8s]; done)) (fun k hk => by cases hk; rfl) (fun w hs => ⟨fun k hk => ?_, fun h => by cases h⟩)
                  cases hk
                  refine WL.nil ?_
                  replace hs := hs.cast (pad_splice _ s d (by omega))
                  have hpl : ∀ k : Nat, (Ent.cells ⟨s, k, padD d⟩).length = 34 := fun k => by simp [Ent.cells, u8s, padD]; omega
                  refine CW.seq ?_
                  refine CW.reg ?_
                  refine WL.val rfl (run_loadN ty48 rfl (hpl _) hs.a0) ?_
                  refine WL.storeAll ty48 rfl rfl (hpl _) (Ent.cells1 _) (hs.swap) rfl (fun w hs => ?_)
                  refine WL.nil ?_
                  refine CW.ret ?_
                  refine fin_cell1 rfl rfl (run_loadVarN ty48 (hpl _) hs.a0) ?_
                  exact .ok hr.symm rfl (Step.dropR (L1 := [_]) (Step.dropL (L1 := [_, _]) hs))
              · have hi : d.length - 1 < d.length := by omega
                have hla : d.getLast? = some d[d.length - 1] := by rw [List.getLast?_eq_getElem?, List.getElem?_eq_getElem hi]
                by_cases hz : d[d.length - 1] = 0
                · rw [if_pos (show badD d from .inr ⟨by omega, by rw [hla, hz]⟩)] at hr
                  rcases hk with rfl | rfl
                  · refine calls (n := 57) Try.func50 rfl rfl rfl ?_
                    refine CW.seq ?_
                    refine CW.reg ?_
                    refine WL.alloc ty48 rfl hs (fun b4 w hs => ?_)
                    refine WL.nil ?_
                    refine CW.seq ?_
                    refine CW.reg ?_
                    refine WL.val rfl (run_move) ?_
                    refine WL.enter rfl (run_call en47 rfl rfl) (num_at h1 _ (h.next (Step.append_comm (L1 := [_]) hs)) hpl) ?_
                    rintro e w ⟨rfl, hq⟩
                    refine ⟨_, rfl, ?_⟩
                    replace hs := (hst (L := [_]) hs hq).append_comm
                    refine WL.val rfl (run_build rfl (bld_kind _ _)) ?_
                    refine WL.alloc ty48 rfl hs (fun b5 w hs => ?_)
                    refine WL.storeAll ty48 rfl rfl (rfl) (Ent.cells1 _) (hs) rfl (fun w hs => ?_)
                    refine WL.nil ?_
                    refine CW.seq <| CW.seq ?_
                    refine CW.reg ?_
                    refine WL.val rfl (run_field (o' := 1) Try.underlying48 rfl ty3 rfl rfl rfl) ?_
                    refine WL.val rfl (run_load1 ty3 rfl (hs.c0 rfl)) ?_
                    refine WL.val rfl (run_bT (run_neq rfl rfl) (by show ((2 : Nat) : Int) ≠ 1; decide)) ?_
                    refine WL.val rfl (run_move) ?_
                    refine WL.yes rfl rfl rfl ?_
                    refine WL.val rfl (run_field (o' := 1) Try.underlying48 rfl ty3 rfl rfl rfl) ?_
                    refine WL.yes rfl rfl rfl ?_
                    refine WL.val rfl (run_load1 ty3 rfl (hs.c0 rfl)) ?_
                    refine WL.yes rfl rfl rfl ?_
                    refine WL.val rfl (run_bF (run_neq rfl rfl) (by show ¬ ((2 : Nat) : Int) ≠ 2; decide)) ?_
                    refine WL.val rfl (run_pickT rfl) ?_
                    refine WL.nil ?_
                    repeat (first | refine CW.seq ?_ | refine CW.skip ?_ | refine CW.condF rfl ?_)
                    refine CW.reg ?_
                    refine WL.val rfl (run_move) ?_
                    refine WL.enter rfl (run_call en70 rfl rfl) (text_at h2 _ (h.next (Step.append_comm (L1 := [_, _]) hs)) (by omega)) ?_
                    rintro e w ⟨rfl, hq2⟩
                    refine ⟨_, rfl, ?_⟩
                    replace hs := (hst (L := [_, _]) hs hq2).append_comm
                    refine WL.val rfl (run_field (o' := 0) Try.underlying48 rfl ty9 rfl rfl rfl) ?_
                    refine WL.store1 ty9 rfl rfl (rfl) (hs) (by first | (simp; done) | omega | (simp only [List.length_append, List.length_replicate, List.length_cons, List.length_nil, List.length_set]; omega) | (simp [Ent.cells, u8s]; done) | exact Nat.le_of_ble_eq_true rfl) (fun w hs => ?_)
                    refine WL.nil ?_
                    refine CW.seq ?_
                    refine CW.reg ?_
                    refine WL.val rfl (run_move) ?_
                    refine WL.val rfl (run_field (o' := 1) Try.underlying48 rfl ty3 rfl rfl rfl) ?_
                    refine WL.val rfl (run_load1 ty3 rfl (hs.c0 rfl)) ?_
                    refine WL.val rfl (run_field (o' := 0) Try.underlying48 rfl ty9 rfl rfl rfl) ?_
                    refine WL.val rfl (run_load1 ty9 rfl (hs.c0 rfl)) ?_
                    refine WL.val rfl (run_move) ?_
                    refine WL.enter rfl (run_call en34 rfl rfl) (wrong_spec hw _ (by omega)) ?_
                    rintro e w ⟨rfl, hq3⟩
                    refine ⟨_, rfl, ?_⟩
                    replace hs := hs.callE hq3
                    refine WL.enter rfl (run_call en48 rfl rfl) (fail_none (bs := bs) _ (h.next (Step.append_comm (L1 := [_, _]) hs))) ?_
                    rintro e w ⟨rfl, hq4⟩
                    refine ⟨_, rfl, ?_⟩
                    replace hs := (hst (L := [_, _]) hs hq4).append_comm
                    refine WL.nil ?_
                    refine CW.seq ?_
                    refine CW.reg ?_
                    refine WL.val rfl (run_move) ?_
                    refine WL.enter rfl (run_call en71 rfl rfl) (bytes_at h3 _ (h.next (Step.append_comm (L1 := [_, _]) hs)) (by omega)) ?_
                    rintro e w ⟨v, Lv, rfl, hv, hq5⟩
                    refine ⟨_, rfl, ?_⟩
                    have hobt := hv.form
                    obtain ⟨va, vc, rfl⟩ := hobt
                    replace hs := (hst (L := [_, _]) hs hq5).append_comm
                    refine WL.val rfl (run_assign) ?_
                    refine WL.nil ?_
                    have hvs := fun (w : World) (hs : Step [b] Lv w0 w) => hv.sl (S := [b]) (L := []) (w0 := w0) (w := w) (by rw [List.append_nil]; exact hs)
                    have hobt := cell_u8 (i := d.length - 1) (hvs _ (Step.dropL (L1 := [_, _, _]) hs)) hi
                    obtain ⟨bk, off, rfl, hcell⟩ := hobt
                    refine CW.seq <| CW.seq ?_
                    refine CW.reg ?_
                    refine WL.val rfl (run_move) ?_
                    refine WL.val rfl (run_lenSl Try.underlying29 rfl) ?_
                    refine WL.val rfl (run_bF (run_gtr rfl rfl) (by omega)) ?_
                    refine WL.val rfl (run_move) ?_
                    refine WL.yes rfl rfl rfl ?_
                    refine WL.val rfl (run_move) ?_
                    refine WL.yes rfl rfl rfl ?_
                    refine WL.val rfl (run_lenSl Try.underlying29 rfl) ?_
                    refine WL.yes rfl rfl rfl ?_
                    refine WL.val rfl (run_bT (run_gtr rfl rfl) (by omega)) ?_
                    refine WL.yes rfl rfl rfl ?_
                    refine WL.val rfl (run_move) ?_
                    refine WL.yes rfl rfl rfl ?_
                    refine WL.val rfl (run_move) ?_
                    refine WL.yes rfl rfl rfl ?_
                    refine WL.val rfl (run_move) ?_
                    refine WL.yes rfl rfl rfl ?_
                    refine WL.val rfl (run_lenSl Try.underlying29 rfl) ?_
                    refine WL.yes rfl rfl rfl ?_
                    refine WL.val rfl (run_sub (c := ((d.length - 1 : Nat) : Int)) rfl rfl (by omega) (by omega)) ?_
                    refine WL.yes rfl rfl rfl ?_
                    refine WL.val rfl (run_ixSlN Try.underlying29 ty5 rfl rfl (by omega)) ?_
                    refine WL.yes rfl rfl rfl ?_
                    refine WL.val rfl (run_load1 ty5 rfl (hcell)) ?_
                    refine WL.yes rfl rfl rfl ?_
                    refine WL.val rfl (run_bT (run_eql rfl rfl) (by rw [hz]; rfl)) ?_
                    refine WL.yes rfl rfl rfl ?_
                    refine WL.val rfl (run_pickT rfl) ?_
                    refine WL.val rfl (run_pickF rfl) ?_
                    refine WL.nil ?_
                    refine CW.condT rfl ?_
                    refine CW.reg ?_
                    refine WL.val rfl (run_move) ?_
                    refine WL.enterX (run_call en48 rfl rfl) (fail_throw (bs := bs) (er := 51) _ (h.next (Step.append_comm (L1 := [_, _]) hs)) (by decide)) ?_
                    rintro e w ⟨p', rfl, hq6⟩
                    refine ⟨_, rfl, ?_⟩
                    exact fin_panic (.err hr.symm (.on (Step.append_comm (L1 := [_, _]) hs) ⟨p', rfl, hq6⟩))
                  · refine calls (n := 57) Try.func50 rfl rfl rfl ?_
                    refine CW.seq ?_
                    refine CW.reg ?_
                    refine WL.alloc ty48 rfl hs (fun b4 w hs => ?_)
                    refine WL.nil ?_
                    refine CW.seq ?_
                    refine CW.reg ?_
                    refine WL.val rfl (run_move) ?_
                    refine WL.enter rfl (run_call en47 rfl rfl) (num_at h1 _ (h.next (Step.append_comm (L1 := [_]) hs)) hpl) ?_
                    rintro e w ⟨rfl, hq⟩
                    refine ⟨_, rfl, ?_⟩
                    replace hs := (hst (L := [_]) hs hq).append_comm
                    refine WL.val rfl (run_build rfl (bld_kind _ _)) ?_
                    refine WL.alloc ty48 rfl hs (fun b5 w hs => ?_)
                    refine WL.storeAll ty48 rfl rfl (rfl) (Ent.cells1 _) (hs) rfl (fun w hs => ?_)
                    refine WL.nil ?_
                    refine CW.seq <| CW.seq ?_
                    refine CW.reg ?_
                    refine WL.val rfl (run_field (o' := 1) Try.underlying48 rfl ty3 rfl rfl rfl) ?_
                    refine WL.val rfl (run_load1 ty3 rfl (hs.c0 rfl)) ?_
                    refine WL.val rfl (run_bF (run_neq rfl rfl) (by show ¬ ((1 : Nat) : Int) ≠ 1; decide)) ?_
                    refine WL.val rfl (run_move) ?_
                    refine WL.no rfl rfl rfl (.inl rfl) ?_
                    refine WL.no rfl rfl rfl (.inl rfl) ?_
                    refine WL.no rfl rfl rfl (.inl rfl) ?_
                    refine WL.val rfl (run_pickF rfl) ?_
                    refine WL.nil ?_
                    repeat (first | refine CW.seq ?_ | refine CW.skip ?_ | refine CW.condF rfl ?_)
                    refine CW.reg ?_
                    refine WL.val rfl (run_move) ?_
                    refine WL.enter rfl (run_call en70 rfl rfl) (text_at h2 _ (h.next (Step.append_comm (L1 := [_, _]) hs)) (by omega)) ?_
                    rintro e w ⟨rfl, hq2⟩
                    refine ⟨_, rfl, ?_⟩
                    replace hs := (hst (L := [_, _]) hs hq2).append_comm
                    refine WL.val rfl (run_field (o' := 0) Try.underlying48 rfl ty9 rfl rfl rfl) ?_
                    refine WL.store1 ty9 rfl rfl (rfl) (hs) (by first | (simp; done) | omega | (simp only [List.length_append, List.length_replicate, List.length_cons, List.length_nil, List.length_set]; omega) | (simp [Ent.cells, u8s]; done) | exact Nat.le_of_ble_eq_true rfl) (fun w hs => ?_)
                    refine WL.nil ?_
                    refine CW.seq ?_
                    refine CW.reg ?_
                    refine WL.val rfl (run_move) ?_
                    refine WL.val rfl (run_field (o' := 1) Try.underlying48 rfl ty3 rfl rfl rfl) ?_
                    refine WL.val rfl (run_load1 ty3 rfl (hs.c0 rfl)) ?_
                    refine WL.val rfl (run_field (o' := 0) Try.underlying48 rfl ty9 rfl rfl rfl) ?_
                    refine WL.val rfl (run_load1 ty9 rfl (hs.c0 rfl)) ?_
                    refine WL.val rfl (run_move) ?_
                    refine WL.enter rfl (run_call en34 rfl rfl) (wrong_spec hw _ (by omega)) ?_
                    rintro e w ⟨rfl, hq3⟩
                    refine ⟨_, rfl, ?_⟩
                    replace hs := hs.callE hq3
                    refine WL.enter rfl (run_call en48 rfl rfl) (fail_none (bs := bs) _ (h.next (Step.append_comm (L1 := [_, _]) hs))) ?_
                    rintro e w ⟨rfl, hq4⟩
                    refine ⟨_, rfl, ?_⟩
                    replace hs := (hst (L := [_, _]) hs hq4).append_comm
                    refine WL.nil ?_
                    refine CW.seq ?_
                    refine CW.reg ?_
                    refine WL.val rfl (run_move) ?_
                    refine WL.enter rfl (run_call en71 rfl rfl) (bytes_at h3 _ (h.next (Step.append_comm (L1 := [_, _]) hs)) (by omega)) ?_
                    rintro e w ⟨v, Lv, rfl, hv, hq5⟩
                    refine ⟨_, rfl, ?_⟩
                    have hobt := hv.form
                    obtain ⟨va, vc, rfl⟩ := hobt
                    replace hs := (hst (L := [_, _]) hs hq5).append_comm
                    refine WL.val rfl (run_assign) ?_
                    refine WL.nil ?_
                    have hvs := fun (w : World) (hs : Step [b] Lv w0 w) => hv.sl (S := [b]) (L := []) (w0 := w0) (w := w) (by rw [List.append_nil]; exact hs)
                    have hobt := cell_u8 (i := d.length - 1) (hvs _ (Step.dropL (L1 := [_, _, _]) hs)) hi
                    obtain ⟨bk, off, rfl, hcell⟩ := hobt
                    refine CW.seq <| CW.seq ?_
                    refine CW.reg ?_
                    refine WL.val rfl (run_move) ?_
                    refine WL.val rfl (run_lenSl Try.underlying29 rfl) ?_
                    refine WL.val rfl (run_bF (run_gtr rfl rfl) (by omega)) ?_
                    refine WL.val rfl (run_move) ?_
                    refine WL.yes rfl rfl rfl ?_
                    refine WL.val rfl (run_move) ?_
                    refine WL.yes rfl rfl rfl ?_
                    refine WL.val rfl (run_lenSl Try.underlying29 rfl) ?_
                    refine WL.yes rfl rfl rfl ?_
                    refine WL.val rfl (run_bT (run_gtr rfl rfl) (by omega)) ?_
                    refine WL.yes rfl rfl rfl ?_
                    refine WL.val rfl (run_move) ?_
                    refine WL.yes rfl rfl rfl ?_
                    refine WL.val rfl (run_move) ?_
                    refine WL.yes rfl rfl rfl ?_
                    refine WL.val rfl (run_move) ?_
                    refine WL.yes rfl rfl rfl ?_
                    refine WL.val rfl (run_lenSl Try.underlying29 rfl) ?_
                    refine WL.yes rfl rfl rfl ?_
                    refine WL.val rfl (run_sub (c := ((d.length - 1 : Nat) : Int)) rfl rfl (by omega) (by omega)) ?_
                    refine WL.yes rfl rfl rfl ?_
                    refine WL.val rfl (run_ixSlN Try.underlying29 ty5 rfl rfl (by omega)) ?_
                    refine WL.yes rfl rfl rfl ?_
                    refine WL.val rfl (run_load1 ty5 rfl (hcell)) ?_
                    refine WL.yes rfl rfl rfl ?_
                    refine WL.val rfl (run_bT (run_eql rfl rfl) (by rw [hz]; rfl)) ?_
                    refine WL.yes rfl rfl rfl ?_
                    refine WL.val rfl (run_pickT rfl) ?_
                    refine WL.val rfl (run_pickF rfl) ?_
                    refine WL.nil ?_
                    refine CW.condT rfl ?_
                    refine CW.reg ?_
                    refine WL.val rfl (run_move) ?_
                    refine WL.enterX (run_call en48 rfl rfl) (fail_throw (bs := bs) (er := 51) _ (h.next (Step.append_comm (L1 := [_, _]) hs)) (by decide)) ?_
                    rintro e w ⟨p', rfl, hq6⟩
                    refine ⟨_, rfl, ?_⟩
                    exact fin_panic (.err hr.symm (.on (Step.append_comm (L1 := [_, _]) hs) ⟨p', rfl, hq6⟩))
                · have hz' : ¬ ((d[d.length - 1].toNat : Int) = 0) := fun h => hz (UInt8.toNat_inj.1 (by simpa using h))
                  rw [if_neg (show ¬ badD d from fun h => h.elim hd1 (fun h => hz (by have := h.2; rw [hla] at this; exact Option.some.inj this)))] at hr
                  rcases hk with rfl | rfl
                  · refine calls (n := 57) Try.func50 rfl rfl rfl ?_
                    refine CW.seq ?_
                    refine CW.reg ?_
                    refine WL.alloc ty48 rfl hs (fun b4 w hs => ?_)
                    refine WL.nil ?_
                    refine CW.seq ?_
                    refine CW.reg ?_
                    refine WL.val rfl (run_move) ?_
                    refine WL.enter rfl (run_call en47 rfl rfl) (num_at h1 _ (h.next (Step.append_comm (L1 := [_]) hs)) hpl) ?_
                    rintro e w ⟨rfl, hq⟩
                    refine ⟨_, rfl, ?_⟩
                    replace hs := (hst (L := [_]) hs hq).append_comm
                    refine WL.val rfl (run_build rfl (bld_kind _ _)) ?_
                    refine WL.alloc ty48 rfl hs (fun b5 w hs => ?_)
                    refine WL.storeAll ty48 rfl rfl (rfl) (Ent.cells1 _) (hs) rfl (fun w hs => ?_)
                    refine WL.nil ?_
                    refine CW.seq <| CW.seq ?_
                    refine CW.reg ?_
                    refine WL.val rfl (run_field (o' := 1) Try.underlying48 rfl ty3 rfl rfl rfl) ?_
                    refine WL.val rfl (run_load1 ty3 rfl (hs.c0 rfl)) ?_
                    refine WL.val rfl (run_bT (run_neq rfl rfl) (by show ((2 : Nat) : Int) ≠ 1; decide)) ?_
                    refine WL.val rfl (run_move) ?_
                    refine WL.yes rfl rfl rfl ?_
                    refine WL.val rfl (run_field (o' := 1) Try.underlying48 rfl ty3 rfl rfl rfl) ?_
                    refine WL.yes rfl rfl rfl ?_
                    refine WL.val rfl (run_load1 ty3 rfl (hs.c0 rfl)) ?_
                    refine WL.yes rfl rfl rfl ?_
                    refine WL.val rfl (run_bF (run_neq rfl rfl) (by show ¬ ((2 : Nat) : Int) ≠ 2; decide)) ?_
                    refine WL.val rfl (run_pickT rfl) ?_
                    refine WL.nil ?_
                    repeat (first | refine CW.seq ?_ | refine CW.skip ?_ | refine CW.condF rfl ?_)
                    refine CW.reg ?_
                    refine WL.val rfl (run_move) ?_
                    refine WL.enter rfl (run_call en70 rfl rfl) (text_at h2 _ (h.next (Step.append_comm (L1 := [_, _]) hs)) (by omega)) ?_
                    rintro e w ⟨rfl, hq2⟩
                    refine ⟨_, rfl, ?_⟩
                    replace hs := (hst (L := [_, _]) hs hq2).append_comm
                    refine WL.val rfl (run_field (o' := 0) Try.underlying48 rfl ty9 rfl rfl rfl) ?_
                    refine WL.store1 ty9 rfl rfl (rfl) (hs) (by first | (simp; done) | omega | (simp only [List.length_append, List.length_replicate, List.length_cons, List.length_nil, List.length_set]; omega) | (simp [Ent.cells, u8s]; done) | exact Nat.le_of_ble_eq_true rfl) (fun w hs => ?_)
                    refine WL.nil ?_
                    refine CW.seq ?_
                    refine CW.reg ?_
                    refine WL.val rfl (run_move) ?_
                    refine WL.val rfl (run_field (o' := 1) Try.underlying48 rfl ty3 rfl rfl rfl) ?_
                    refine WL.val rfl (run_load1 ty3 rfl (hs.c0 rfl)) ?_
                    refine WL.val rfl (run_field (o' := 0) Try.underlying48 rfl ty9 rfl rfl rfl) ?_
                    refine WL.val rfl (run_load1 ty9 rfl (hs.c0 rfl)) ?_
                    refine WL.val rfl (run_move) ?_
                    refine WL.enter rfl (run_call en34 rfl rfl) (wrong_spec hw _ (by omega)) ?_
                    rintro e w ⟨rfl, hq3⟩
                    refine ⟨_, rfl, ?_⟩
                    replace hs := hs.callE hq3
                    refine WL.enter rfl (run_call en48 rfl rfl) (fail_none (bs := bs) _ (h.next (Step.append_comm (L1 := [_, _]) hs))) ?_
                    rintro e w ⟨rfl, hq4⟩
                    refine ⟨_, rfl, ?_⟩
                    replace hs := (hst (L := [_, _]) hs hq4).append_comm
                    refine WL.nil ?_
                    refine CW.seq ?_
                    refine CW.reg ?_
                    refine WL.val rfl (run_move) ?_
                    refine WL.enter rfl (run_call en71 rfl rfl) (bytes_at h3 _ (h.next (Step.append_comm (L1 := [_, _]) hs)) (by omega)) ?_
                    rintro e w ⟨v, Lv, rfl, hv, hq5⟩
                    refine ⟨_, rfl, ?_⟩
                    have hobt := hv.form
                    obtain ⟨va, vc, rfl⟩ := hobt
                    replace hs := (hst (L := [_, _]) hs hq5).append_comm
                    refine WL.val rfl (run_assign) ?_
                    refine WL.nil ?_
                    have hvs := fun (w : World) (hs : Step [b] Lv w0 w) => hv.sl (S := [b]) (L := []) (w0 := w0) (w := w) (by rw [List.append_nil]; exact hs)
                    have hobt := cell_u8 (i := d.length - 1) (hvs _ (Step.dropL (L1 := [_, _, _]) hs)) hi
                    obtain ⟨bk, off, rfl, hcell⟩ := hobt
                    refine CW.seq <| CW.seq ?_
                    refine CW.reg ?_
                    refine WL.val rfl (run_move) ?_
                    refine WL.val rfl (run_lenSl Try.underlying29 rfl) ?_
                    refine WL.val rfl (run_bF (run_gtr rfl rfl) (by omega)) ?_
                    refine WL.val rfl (run_move) ?_
                    refine WL.yes rfl rfl rfl ?_
                    refine WL.val rfl (run_move) ?_
                    refine WL.yes rfl rfl rfl ?_
                    refine WL.val rfl (run_lenSl Try.underlying29 rfl) ?_
                    refine WL.yes rfl rfl rfl ?_
                    refine WL.val rfl (run_bT (run_gtr rfl rfl) (by omega)) ?_
                    refine WL.yes rfl rfl rfl ?_
                    refine WL.val rfl (run_move) ?_
                    refine WL.yes rfl rfl rfl ?_
                    refine WL.val rfl (run_move) ?_
                    refine WL.yes rfl rfl rfl ?_
                    refine WL.val rfl (run_move) ?_
                    refine WL.yes rfl rfl rfl ?_
                    refine WL.val rfl (run_lenSl Try.underlying29 rfl) ?_
                    refine WL.yes rfl rfl rfl ?_
                    refine WL.val rfl (run_sub (c := ((d.length - 1 : Nat) : Int)) rfl rfl (by omega) (by omega)) ?_
                    refine WL.yes rfl rfl rfl ?_
                    refine WL.val rfl (run_ixSlN Try.underlying29 ty5 rfl rfl (by omega)) ?_
                    refine WL.yes rfl rfl rfl ?_
                    refine WL.val rfl (run_load1 ty5 rfl (hcell)) ?_
                    refine WL.yes rfl rfl rfl ?_
                    refine WL.val rfl (run_bF (run_eql rfl rfl) (by exact hz')) ?_
                    refine WL.yes rfl rfl rfl ?_
                    refine WL.val rfl (run_pickT rfl) ?_
                    refine WL.val rfl (run_pickF rfl) ?_
                    refine WL.nil ?_
                    repeat (first | refine CW.seq ?_ | refine CW.skip ?_ | refine CW.condF rfl ?_)
                    refine CW.reg ?_
                    refine WL.val rfl (run_field (o' := 2) Try.underlying48 rfl ty46 rfl rfl rfl) ?_
                    refine WL.val rfl (run_sliceArr0 Try.underlying46 ty5 rfl) ?_
                    refine WL.val rfl (run_move) ?_
                    refine WL.copy Try.underlying29 ty5 rfl rfl (hs) ((hvs _ (Step.dropL (L1 := [_, _, _]) hs))) (Cells1.u8s d) (by first | omega | exact Nat.le_of_ble_eq_true rfl | (simp [Ent.cells, u8s]; done)) (fun k hk => by cases hk; rfl) (fun w hs => ⟨fun k hk => ?_, fun h => by cases h⟩)
                    cases hk
                    refine WL.nil ?_
                    replace hs := hs.cast (pad_splice _ s d (by omega))
                    have hpl : ∀ k : Nat, (Ent.cells ⟨s, k, padD d⟩).length = 34 := fun k => by simp [Ent.cells, u8s, padD]; omega
                    refine CW.seq ?_
                    refine CW.reg ?_
                    refine WL.val rfl (run_loadN ty48 rfl (hpl _) hs.a0) ?_
                    refine WL.storeAll ty48 rfl rfl (hpl _) (Ent.cells1 _) (hs.swap) rfl (fun w hs => ?_)
                    refine WL.nil ?_
                    refine CW.ret ?_
                    refine fin_cell1 rfl rfl (run_loadVarN ty48 (hpl _) hs.a0) ?_
                    exact .ok hr.symm rfl (Step.dropR (L1 := [_]) (Step.dropL (L1 := [_, _]) hs))
                  · refine calls (n := 57) Try.func50 rfl rfl rfl ?_
                    refine CW.seq ?_
                    refine CW.reg ?_
                    refine WL.alloc ty48 rfl hs (fun b4 w hs => ?_)
                    refine WL.nil ?_
                    refine CW.seq ?_
                    refine CW.reg ?_
                    refine WL.val rfl (run_move) ?_
                    refine WL.enter rfl (run_call en47 rfl rfl) (num_at h1 _ (h.next (Step.append_comm (L1 := [_]) hs)) hpl) ?_
                    rintro e w ⟨rfl, hq⟩
                    refine ⟨_, rfl, ?_⟩
                    replace hs := (hst (L := [_]) hs hq).append_comm
                    refine WL.val rfl (run_build rfl (bld_kind _ _)) ?_
                    refine WL.alloc ty48 rfl hs (fun b5 w hs => ?_)
                    refine WL.storeAll ty48 rfl rfl (rfl) (Ent.cells1 _) (hs) rfl (fun w hs => ?_)
                    refine WL.nil ?_
                    refine CW.seq <| CW.seq ?_
                    refine CW.reg ?_
                    refine WL.val rfl (run_field (o' := 1) Try.underlying48 rfl ty3 rfl rfl rfl) ?_
                    refine WL.val rfl (run_load1 ty3 rfl (hs.c0 rfl)) ?_
                    refine WL.val rfl (run_bF (run_neq rfl rfl) (by show ¬ ((1 : Nat) : Int) ≠ 1; decide)) ?_
                    refine WL.val rfl (run_move) ?_
                    refine WL.no rfl rfl rfl (.inl rfl) ?_
                    refine WL.no rfl rfl rfl (.inl rfl) ?_
                    refine WL.no rfl rfl rfl (.inl rfl) ?_
                    refine WL.val rfl (run_pickF rfl) ?_
                    refine WL.nil ?_
                    repeat (first | refine CW.seq ?_ | refine CW.skip ?_ | refine CW.condF rfl ?_)
                    refine CW.reg ?_
                    refine WL.val rfl (run_move) ?_
                    refine WL.enter rfl (run_call en70 rfl rfl) (text_at h2 _ (h.next (Step.append_comm (L1 := [_, _]) hs)) (by omega)) ?_
                    rintro e w ⟨rfl, hq2⟩
                    refine ⟨_, rfl, ?_⟩
                    replace hs := (hst (L := [_, _]) hs hq2).append_comm
                    refine WL.val rfl (run_field (o' := 0) Try.underlying48 rfl ty9 rfl rfl rfl) ?_
                    refine WL.store1 ty9 rfl rfl (rfl) (hs) (by first | (simp; done) | omega | (simp only [List.length_append, List.length_replicate, List.length_cons, List.length_nil, List.length_set]; omega) | (simp [Ent.cells, u8s]; done) | exact Nat.le_of_ble_eq_true rfl) (fun w hs => ?_)
                    refine WL.nil ?_
                    refine CW.seq ?_
                    refine CW.reg ?_
                    refine WL.val rfl (run_move) ?_
                    refine WL.val rfl (run_field (o' := 1) Try.underlying48 rfl ty3 rfl rfl rfl) ?_
                    refine WL.val rfl (run_load1 ty3 rfl (hs.c0 rfl)) ?_
                    refine WL.val rfl (run_field (o' := 0) Try.underlying48 rfl ty9 rfl rfl rfl) ?_
                    refine WL.val rfl (run_load1 ty9 rfl (hs.c0 rfl)) ?_
                    refine WL.val rfl (run_move) ?_
                    refine WL.enter rfl (run_call en34 rfl rfl) (wrong_spec hw _ (by omega)) ?_
                    rintro e w ⟨rfl, hq3⟩
                    refine ⟨_, rfl, ?_⟩
                    replace hs := hs.callE hq3
                    refine WL.enter rfl (run_call en48 rfl rfl) (fail_none (bs := bs) _ (h.next (Step.append_comm (L1 := [_, _]) hs))) ?_
                    rintro e w ⟨rfl, hq4⟩
                    refine ⟨_, rfl, ?_⟩
                    replace hs := (hst (L := [_, _]) hs hq4).append_comm
                    refine WL.nil ?_
                    refine CW.seq ?_
                    refine CW.reg ?_
                    refine WL.val rfl (run_move) ?_
                    refine WL.enter rfl (run_call en71 rfl rfl) (bytes_at h3 _ (h.next (Step.append_comm (L1 := [_, _]) hs)) (by omega)) ?_
                    rintro e w ⟨v, Lv, rfl, hv, hq5⟩
                    refine ⟨_, rfl, ?_⟩
                    have hobt := hv.form
                    obtain ⟨va, vc, rfl⟩ := hobt
                    replace hs := (hst (L := [_, _]) hs hq5).append_comm
                    refine WL.val rfl (run_assign) ?_
                    refine WL.nil ?_
                    have hvs := fun (w : World) (hs : Step [b] Lv w0 w) => hv.sl (S := [b]) (L := []) (w0 := w0) (w := w) (by rw [List.append_nil]; exact hs)
                    have hobt := cell_u8 (i := d.length - 1) (hvs _ (Step.dropL (L1 := [_, _, _]) hs)) hi
                    obtain ⟨bk, off, rfl, hcell⟩ := hobt
                    refine CW.seq <| CW.seq ?_
                    refine CW.reg ?_
                    refine WL.val rfl (run_move) ?_
                    refine WL.val rfl (run_lenSl Try.underlying29 rfl) ?_
                    refine WL.val rfl (run_bF (run_gtr rfl rfl) (by omega)) ?_
                    refine WL.val rfl (run_move) ?_
                    refine WL.yes rfl rfl rfl ?_
                    refine WL.val rfl (run_move) ?_
                    refine WL.yes rfl rfl rfl ?_
                    refine WL.val rfl (run_lenSl Try.underlying29 rfl) ?_
                    refine WL.yes rfl rfl rfl ?_
                    refine WL.val rfl (run_bT (run_gtr rfl rfl) (by omega)) ?_
                    refine WL.yes rfl rfl rfl ?_
                    refine WL.val rfl (run_move) ?_
                    refine WL.yes rfl rfl rfl ?_
                    refine WL.val rfl (run_move) ?_
                    refine WL.yes rfl rfl rfl ?_
                    refine WL.val rfl (run_move) ?_
                    refine WL.yes rfl rfl rfl ?_
                    refine WL.val rfl (run_lenSl Try.underlying29 rfl) ?_
                    refine WL.yes rfl rfl rfl ?_
                    refine WL.val rfl (run_sub (c := ((d.length - 1 : Nat) : Int)) rfl rfl (by omega) (by omega)) ?_
                    refine WL.yes rfl rfl rfl ?_
                    refine WL.val rfl (run_ixSlN Try.underlying29 ty5 rfl rfl (by omega)) ?_
                    refine WL.yes rfl rfl rfl ?_
                    refine WL.val rfl (run_load1 ty5 rfl (hcell)) ?_
                    refine WL.yes rfl rfl rfl ?_
                    refine WL.val rfl (run_bF (run_eql rfl rfl) (by exact hz')) ?_
                    refine WL.yes rfl rfl rfl ?_
                    refine WL.val rfl (run_pickT rfl) ?_
                    refine WL.val rfl (run_pickF rfl) ?_
                    refine WL.nil ?_
                    repeat (first | refine CW.seq ?_ | refine CW.skip ?_ | refine CW.condF rfl ?_)
                    refine CW.reg ?_
                    refine WL.val rfl (run_field (o' := 2) Try.underlying48 rfl ty46 rfl rfl rfl) ?_
                    refine WL.val rfl (run_sliceArr0 Try.underlying46 ty5 rfl) ?_
                    refine WL.val rfl (run_move) ?_
                    refine WL.copy Try.underlying29 ty5 rfl rfl (hs) ((hvs _ (Step.dropL (L1 := [_, _, _]) hs))) (Cells1.u8s d) (by first | omega | exact Nat.le_of_ble_eq_true rfl | (simp [Ent.cells, u8s]; done)) (fun k hk => by cases hk; rfl) (fun w hs => ⟨fun k hk => ?_, fun h => by cases h⟩)
                    cases hk
                    refine WL.nil ?_
                    replace hs := hs.cast (pad_splice _ s d (by omega))
                    have hpl : ∀ k : Nat, (Ent.cells ⟨s, k, padD d⟩).length = 34 := fun k => by simp [Ent.cells, u8s, padD]; omega
                    refine CW.seq ?_
                    refine CW.reg ?_
                    refine WL.val rfl (run_loadN ty48 rfl (hpl _) hs.a0) ?_
                    refine WL.storeAll ty48 rfl rfl (hpl _) (Ent.cells1 _) (hs.swap) rfl (fun w hs => ?_)
                    refine WL.nil ?_
                    refine CW.ret ?_
                    refine fin_cell1 rfl rfl (run_loadVarN ty48 (hpl _) hs.a0) ?_
                    exact .ok hr.symm rfl (Step.dropR (L1 := [_]) (Step.dropL (L1 := [_, _]) hs))
        · rw [if_neg hw] at hr
          have hw1 := wrongE_51 hw
          rcases hk with rfl | rfl
          · refine calls (n := 57) Try.func50 rfl rfl rfl ?_
            refine CW.seq ?_
            refine CW.reg ?_
            refine WL.alloc ty48 rfl hs (fun b4 w hs => ?_)
            refine WL.nil ?_
            refine CW.seq ?_
            refine CW.reg ?_
            refine WL.val rfl (run_move) ?_
            refine WL.enter rfl (run_call en47 rfl rfl) (num_at h1 _ (h.next (Step.append_comm (L1 := [_]) hs)) hpl) ?_
            rintro e w ⟨rfl, hq⟩
            refine ⟨_, rfl, ?_⟩
            replace hs := (hst (L := [_]) hs hq).append_comm
            refine WL.val rfl (run_build rfl (bld_kind _ _)) ?_
            refine WL.alloc ty48 rfl hs (fun b5 w hs => ?_)
            refine WL.storeAll ty48 rfl rfl (rfl) (Ent.cells1 _) (hs) rfl (fun w hs => ?_)
            refine WL.nil ?_
            refine CW.seq <| CW.seq ?_
            refine CW.reg ?_
            refine WL.val rfl (run_field (o' := 1) Try.underlying48 rfl ty3 rfl rfl rfl) ?_
            refine WL.val rfl (run_load1 ty3 rfl (hs.c0 rfl)) ?_
            refine WL.val rfl (run_bT (run_neq rfl rfl) (by show ((2 : Nat) : Int) ≠ 1; decide)) ?_
            refine WL.val rfl (run_move) ?_
            refine WL.yes rfl rfl rfl ?_
            refine WL.val rfl (run_field (o' := 1) Try.underlying48 rfl ty3 rfl rfl rfl) ?_
            refine WL.yes rfl rfl rfl ?_
            refine WL.val rfl (run_load1 ty3 rfl (hs.c0 rfl)) ?_
            refine WL.yes rfl rfl rfl ?_
            refine WL.val rfl (run_bF (run_neq rfl rfl) (by show ¬ ((2 : Nat) : Int) ≠ 2; decide)) ?_
            refine WL.val rfl (run_pickT rfl) ?_
            refine WL.nil ?_
            repeat (first | refine CW.seq ?_ | refine CW.skip ?_ | refine CW.condF rfl ?_)
            refine CW.reg ?_
            refine WL.val rfl (run_move) ?_
            refine WL.enter rfl (run_call en70 rfl rfl) (text_at h2 _ (h.next (Step.append_comm (L1 := [_, _]) hs)) (by omega)) ?_
            rintro e w ⟨rfl, hq2⟩
            refine ⟨_, rfl, ?_⟩
            replace hs := (hst (L := [_, _]) hs hq2).append_comm
            refine WL.val rfl (run_field (o' := 0) Try.underlying48 rfl ty9 rfl rfl rfl) ?_
            refine WL.store1 ty9 rfl rfl (rfl) (hs) (by first | (simp; done) | omega | (simp only [List.length_append, List.length_replicate, List.length_cons, List.length_nil, List.length_set]; omega) | (simp [Ent.cells, u8s]; done) | exact Nat.le_of_ble_eq_true rfl) (fun w hs => ?_)
            refine WL.nil ?_
            refine CW.seq ?_
            refine CW.reg ?_
            refine WL.val rfl (run_move) ?_
            refine WL.val rfl (run_field (o' := 1) Try.underlying48 rfl ty3 rfl rfl rfl) ?_
            refine WL.val rfl (run_load1 ty3 rfl (hs.c0 rfl)) ?_
            refine WL.val rfl (run_field (o' := 0) Try.underlying48 rfl ty9 rfl rfl rfl) ?_
            refine WL.val rfl (run_load1 ty9 rfl (hs.c0 rfl)) ?_
            refine WL.val rfl (run_move) ?_
            refine WL.enter rfl (run_call en34 rfl rfl) (wrong_spec hw1 _ (by omega)) ?_
            rintro e w ⟨rfl, hq3⟩
            refine ⟨_, rfl, ?_⟩
            replace hs := hs.callE hq3
            refine WL.enterX (run_call en48 rfl rfl) (fail_throw (bs := bs) (er := 51) _ (h.next (Step.append_comm (L1 := [_, _]) hs)) (by decide)) ?_
            rintro e w ⟨p', rfl, hq4⟩
            refine ⟨_, rfl, ?_⟩
            exact fin_panic (.err hr.symm (.on (Step.append_comm (L1 := [_, _]) hs) ⟨p', rfl, hq4⟩))
          · refine calls (n := 57) Try.func50 rfl rfl rfl ?_
            refine CW.seq ?_
            refine CW.reg ?_
            refine WL.alloc ty48 rfl hs (fun b4 w hs => ?_)
            refine WL.nil ?_
            refine CW.seq ?_
            refine CW.reg ?_
            refine WL.val rfl (run_move) ?_
            refine WL.enter rfl (run_call en47 rfl rfl) (num_at h1 _ (h.next (Step.append_comm (L1 := [_]) hs)) hpl) ?_
            rintro e w ⟨rfl, hq⟩
            refine ⟨_, rfl, ?_⟩
            replace hs := (hst (L := [_]) hs hq).append_comm
            refine WL.val rfl (run_build rfl (bld_kind _ _)) ?_
            refine WL.alloc ty48 rfl hs (fun b5 w hs => ?_)
            refine WL.storeAll ty48 rfl rfl (rfl) (Ent.cells1 _) (hs) rfl (fun w hs => ?_)
            refine WL.nil ?_
            refine CW.seq <| CW.seq ?_
            refine CW.reg ?_
            refine WL.val rfl (run_field (o' := 1) Try.underlying48 rfl ty3 rfl rfl rfl) ?_
            refine WL.val rfl (run_load1 ty3 rfl (hs.c0 rfl)) ?_
            refine WL.val rfl (run_bF (run_neq rfl rfl) (by show ¬ ((1 : Nat) : Int) ≠ 1; decide)) ?_
            refine WL.val rfl (run_move) ?_
            refine WL.no rfl rfl rfl (.inl rfl) ?_
            refine WL.no rfl rfl rfl (.inl rfl) ?_
            refine WL.no rfl rfl rfl (.inl rfl) ?_
            refine WL.val rfl (run_pickF rfl) ?_
            refine WL.nil ?_
            repeat (first | refine CW.seq ?_ | refine CW.skip ?_ | refine CW.condF rfl ?_)
            refine CW.reg ?_
            refine WL.val rfl (run_move) ?_
            refine WL.enter rfl (run_call en70 rfl rfl) (text_at h2 _ (h.next (Step.append_comm (L1 := [_, _]) hs)) (by omega)) ?_
            rintro e w ⟨rfl, hq2⟩
            refine ⟨_, rfl, ?_⟩
            replace hs := (hst (L := [_, _]) hs hq2).append_comm
            refine WL.val rfl (run_field (o' := 0) Try.underlying48 rfl ty9 rfl rfl rfl) ?_
            refine WL.store1 ty9 rfl rfl (rfl) (hs) (by first | (simp; done) | omega | (simp only [List.length_append, List.length_replicate, List.length_cons, List.length_nil, List.length_set]; omega) | (simp [Ent.cells, u8s]; done) | exact Nat.le_of_ble_eq_true rfl) (fun w hs => ?_)
            refine WL.nil ?_
            refine CW.seq ?_
            refine CW.reg ?_
            refine WL.val rfl (run_move) ?_
            refine WL.val rfl (run_field (o' := 1) Try.underlying48 rfl ty3 rfl rfl rfl) ?_
            refine WL.val rfl (run_load1 ty3 rfl (hs.c0 rfl)) ?_
            refine WL.val rfl (run_field (o' := 0) Try.underlying48 rfl ty9 rfl rfl rfl) ?_
            refine WL.val rfl (run_load1 ty9 rfl (hs.c0 rfl)) ?_
            refine WL.val rfl (run_move) ?_
            refine WL.enter rfl (run_call en34 rfl rfl) (wrong_spec hw1 _ (by omega)) ?_
            rintro e w ⟨rfl, hq3⟩
            refine ⟨_, rfl, ?_⟩
            replace hs := hs.callE hq3
            refine WL.enterX (run_call en48 rfl rfl) (fail_throw (bs := bs) (er := 51) _ (h.next (Step.append_comm (L1 := [_, _]) hs)) (by decide)) ?_
            rintro e w ⟨p', rfl, hq4⟩
            refine ⟨_, rfl, ?_⟩
            exact fin_panic (.err hr.symm (.on (Step.append_comm (L1 := [_, _]) hs) ⟨p', rfl, hq4⟩))
    · rw [if_neg hk] at hr
      refine calls (n := 57) Try.func50 rfl rfl rfl ?_
      refine CW.seq ?_
      refine CW.reg ?_
      refine WL.alloc ty48 rfl hs (fun b4 w hs => ?_)
      refine WL.nil ?_
      refine CW.seq ?_
      refine CW.reg ?_
      refine WL.val rfl (run_move) ?_
      refine WL.enter rfl (run_call en47 rfl rfl) (num_at h1 _ (h.next (Step.append_comm (L1 := [_]) hs)) hpl) ?_
      rintro e w ⟨rfl, hq⟩
      refine ⟨_, rfl, ?_⟩
      replace hs := (hst (L := [_]) hs hq).append_comm
      refine WL.val rfl (run_build rfl (bld_kind _ _)) ?_
      refine WL.alloc ty48 rfl hs (fun b5 w hs => ?_)
      refine WL.storeAll ty48 rfl rfl (rfl) (Ent.cells1 _) (hs) rfl (fun w hs => ?_)
      refine WL.nil ?_
      refine CW.seq <| CW.seq ?_
      refine CW.reg ?_
      refine WL.val rfl (run_field (o' := 1) Try.underlying48 rfl ty3 rfl rfl rfl) ?_
      refine WL.val rfl (run_load1 ty3 rfl (hs.c0 rfl)) ?_
      refine WL.val rfl (run_bT (run_neq rfl rfl) (by show (k : Int) ≠ 1; omega)) ?_
      refine WL.val rfl (run_move) ?_
      refine WL.yes rfl rfl rfl ?_
      refine WL.val rfl (run_field (o' := 1) Try.underlying48 rfl ty3 rfl rfl rfl) ?_
      refine WL.yes rfl rfl rfl ?_
      refine WL.val rfl (run_load1 ty3 rfl (hs.c0 rfl)) ?_
      refine WL.yes rfl rfl rfl ?_
      refine WL.val rfl (run_bT (run_neq rfl rfl) (by show (k : Int) ≠ 2; omega)) ?_
      refine WL.val rfl (run_pickT rfl) ?_
      refine WL.nil ?_
      refine CW.condT rfl ?_
      refine CW.reg ?_
      refine WL.val rfl (run_move) ?_
      refine WL.enterX (run_call en48 rfl rfl) (fail_throw (bs := bs) (er := 51) _ (h.next (Step.append_comm (L1 := [_, _]) hs)) (by decide)) ?_
      rintro e w ⟨p', rfl, hq2⟩
      refine ⟨_, rfl, ?_⟩
      exact fin_panic (.err hr.symm (.on (Step.append_comm (L1 := [_, _]) hs) ⟨p', rfl, hq2⟩))
end Go.Gx
