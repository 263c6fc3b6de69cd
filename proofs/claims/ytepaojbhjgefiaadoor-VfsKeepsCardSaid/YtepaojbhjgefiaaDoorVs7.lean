/- Files in memory: Write. -/
import Derived.Test.YtepaojbhjgefiaaDoorVs6
import Derived.Test.YtepaojbhjgefiaaDoorPrimB
namespace Go.Gx
open Go.Proofs
set_option linter.unusedVariables false
set_option linter.unusedSimpArgs false
set_option maxRecDepth 100000
section
variable {P : Program} {ops : Array Oper} {Q : Post} {n : Nat} {rest : List Oper} {f : Slots} {ds : List Deferred} {w w0 : World} {ty : TypeId} {pos : String} {af : Array Edge} {x y : Operand} {T T' E : TypeId} {d : Nat} {S : List Nat} {L : List (Nat × Obj)}
/-- append(v, make([]T, m)...), v our own. -/
theorem WL.appendZO {agg : Bool} {bytes k m : Nat} {z : Value} {xs : List Value} {v : Value} {Lv : List (Nat × Obj)} {kn : IntKind} (ht : P.underlying T = some (.slice E)) (ht' : P.underlying T' = some (.int kn)) (hE : Ty P E agg 1 bytes [z]) (hz1 : z.oneCell' = true) (hzl : [z].length = 1) (hb0 : 0 < bytes)
    (hx : ev f x = v) (hy : ev f y = .int .i64 m) (hv : OwnSl E 1 v k xs Lv) (hs : Step S (Lv ++ L) w0 w) (hm : 0 < m) (hroom : (k + m) * bytes ≤ 140737488355328) (hd : Nat.blt d n = true)
    (h : ∀ v' Lv' w', OwnSl E 1 v' (k + m) (xs ++ List.replicate m z) Lv' → Step S (Lv' ++ L) w0 w' → WL P ops Q n rest (upd f d v') ds w') :
    WL P ops Q n (⟨some d, .call { callee := .builtin .append, args := #[x, y], argTypes := #[T, T'] }, ty, pos, af, none⟩ :: rest) f ds w := by
  have hfl : ∀ j, (List.replicate j [z]).flatten = List.replicate j z := fun j => by
    induction j with
    | zero => rfl
    | succ j ih => rw [List.replicate_succ, List.flatten_cons, ih, List.replicate_succ]; rfl
  have hsl := hv.sl hs
  have hobt := hv.form
  obtain ⟨a, cap, rfl⟩ := hobt
  have ha : ∃ a' c', Value.slice a k cap = .slice a' k c' := ⟨a, cap, rfl⟩
  by_cases hfit : k + m ≤ cap
  · obtain ⟨hl, ⟨h1, rfl, rfl⟩ | ⟨b, cap', more, h1, rfl, hcap⟩⟩ := hv
    · cases h1
      omega
    · cases h1
      have hkm : (k + m) * 1 ≤ (k + m) * bytes := Nat.mul_le_mul_left _ hb0
      have hobt := hE.info
      obtain ⟨i, z0, hi, hsz, hby, hz0, hc0, _⟩ := hobt
      have hwm : IntKind.i64.wrap (m : Int) = m := wrap_i64 (by omega)
      have hm48 : ¬ (281474976710656 < (m : Int) * (i.bytes : Int)) := by
        rw [hby]
        have h1 : m * bytes ≤ (k + m) * bytes := Nat.mul_le_mul_right _ (by omega)
        have h2 : ((m * bytes : Nat) : Int) ≤ ((140737488355328 : Nat) : Int) := Int.ofNat_le.2 (Nat.le_trans h1 hroom)
        rw [Int.natCast_mul] at h2
        omega
      have hmneg : ¬ ((m : Int) < 0) := by omega
      have hzc : ∀ j, Builtin.zeroCells z0.cells j = (List.replicate j z).toArray := fun j => by
        rw [hc0]
        have := zero_row [z] j
        rw [hfl] at this
        simpa [Builtin.zeroCells] using this
      have hlm : (xs ++ more).length = xs.length + more.length := by simp
      have hle : (List.replicate m z).length ≤ more.length := by
        rw [List.length_replicate]
        omega
      have hst := run_storeCells (P := P) (List.replicate m z) 0 (k * 1) b E (xs ++ more) w hs.hd (by rw [hlm]; omega) (fun u hu => by rw [List.mem_replicate] at hu; rw [hu.2]; exact hz1)
      have hm0 : ¬ m = 0 := by omega
      have hr : (Builtin.append_ #[T, T'] ty #[.slice (some ⟨b, 0, none⟩) k cap, .int .i64 m]).run P w = .ok (.slice (some ⟨b, 0, none⟩) (k + m) cap) (setRow w b (k * 1 + 0) (List.replicate m z)) := by
        rw [Nat.mul_one] at hst ⊢
        simp [Builtin.append_, run_underlying ht, run_underlying ht', sizeOf, typeInfo, zeroValue, hi, hz0, hsz, hfit, hzc, asInt, asIntOf, hwm, hm48, hmneg, hm0, add_off, hst]
      have hrow := Step.row (List.replicate m z) (k * 1) (xs ++ more) w hs (by rw [hlm]; omega)
      rw [← hl, splice_end xs more _ hle] at hrow
      rw [Nat.add_zero, ← hl] at hr
      refine WL.val hd ?_ (h _ [(b, blk E (xs ++ List.replicate m z ++ more.drop (List.replicate m z).length))] _ ⟨by simp [hl], .inr ⟨b, cap, more.drop (List.replicate m z).length, rfl, rfl, ?_⟩⟩ hrow)
      · simp [execOp, hx, hy, resolve, invoke, builtin, hr]
      · simp only [List.length_append, List.length_drop, List.length_replicate] at hcap hle ⊢
        omega
  · refine WL.appendZ ht ht' hE hzl hb0 hx hy hsl hs.dropL (by omega) hroom hd fun v' Lv' w' ho hs' => ?_
    rw [hfl] at ho
    exact h v' Lv' w' ho hs'
end
/-- b laid into x from a on; zeros between. -/
def overL (x : List UInt8) (a : Nat) (b : List UInt8) : List UInt8 := (x ++ List.replicate (a + b.length - x.length) 0).take a ++ b ++ (x ++ List.replicate (a + b.length - x.length) 0).drop (a + b.length)
theorem overL_len (x : List UInt8) (a : Nat) (b : List UInt8) : (overL x a b).length = max x.length (a + b.length) := by
  unfold overL
  simp only [List.length_append, List.length_take, List.length_drop, List.length_replicate]
  omega
def VS.pth (s : VS) (i : Nat) : List UInt8 := ((s.F[i]?).map (·.1)).getD []
def VS.write (s : VS) (h : Int) (b : List UInt8) : Int × VS :=
  if s.may h b.length ≠ 0 ∨ b = [] then (s.may h b.length, s) else
  match s.is h with
  | none => (0, s)
  | some (i, pl, mo) => (0, { s with F := s.F.set i (s.pth i, overL (s.data i) (s.from_ i pl mo) b), H := s.H.set h.toNat (some (i, s.from_ i pl mo + b.length, mo)), by_ := s.by_ + (s.from_ i pl mo + b.length - s.len i) })
section
variable {bf mf md : Nat} {s : VS} {L Lh : List (Nat × Obj)} {vh : Value} {Fs : List FB} {Ds : List DB} {Hs : List (Option HB)} {w0 : World}
theorem VOpen.pth_ (o : VOpen bf s L mf md vh Lh Fs Ds Hs) {i : Nat} {r : FB} (hr : Fs[i]? = some r) : s.pth i = r.p := by
  unfold VS.pth
  rw [← o.F, List.getElem?_map, hr]
  rfl
theorem mapF_set : ∀ (Fs : List FB) (k i : Nat) (r r' : FB), Fs[i]? = some r → r'.p = r.p → r'.b = r.b → mapF (Fs.set i r') k = mapF Fs k
  | [], _, _, _, _, h, _, _ => by simp at h
  | a :: l, k, 0, r, r', h, h1, h2 => by
    simp only [List.getElem?_cons_zero, Option.some.injEq] at h
    subst h
    simp only [List.set_cons_zero, mapF, h1, h2]
  | a :: l, k, i + 1, r, r', h, h1, h2 => by
    rw [List.getElem?_cons_succ] at h
    simp only [List.set_cons_succ, mapF, mapF_set l (k + 1) i r r' h h1 h2]
/-- What is neither the handle, nor the file, nor the FS itself. -/
def rest2 (mf md : Nat) (Lh : List (Nat × Obj)) (Fs : List FB) (Ds : List DB) (Hs : List (Option HB)) (k i : Nat) : List (Nat × Obj) := (mf, mapS (mapF Fs 0) Fs.length) :: (md, mapS (mapDi Ds 0) Ds.length) :: (Lh ++ ((Fs.eraseIdx i).flatMap FB.own ++ (Ds.flatMap DB.own ++ (Hs.eraseIdx k).flatMap HB.own)))
theorem VOpen.openFH (o : VOpen bf s L mf md vh Lh Fs Ds Hs) {k i : Nat} {hb : HB} {r : FB} (hk : Hs[k]? = some (some hb)) (hr : Fs[i]? = some r) :
    L.Perm ((hb.b, blk 93 [.pointer (some ⟨hb.fb, 0, none⟩), .int .i64 (hb.pl : Nat), .int .i64 (hb.mo : Nat)]) :: (r.b, blk 89 [str r.p, r.v]) :: (bf, blk 81 (fsC mf md vh s)) :: (r.Lv ++ rest2 mf md Lh Fs Ds Hs k i)) := by
  classical
  have h1 := flat_open (f := FB.own) hr
  have h2 := flat_open (f := HB.own) hk
  rw [o.L]
  refine List.perm_iff_count.2 fun x => ?_
  have e1 := h1.count_eq x
  have e2 := h2.count_eq x
  simp only [rest2, FB.own, HB.own, List.count_append, List.count_cons, List.count_nil] at e1 e2 ⊢
  omega
/-- A handle's place and its file's bytes set. -/
theorem VOpen.setFH (o : VOpen bf s L mf md vh Lh Fs Ds Hs) {k : Nat} {hb : HB} {r : FB} (hk : Hs[k]? = some (some hb)) (hr : Fs[hb.i]? = some r) (hfb : hb.fb = r.b) (pl by' : Nat) {v' : Value} {x' : List UInt8} {Lv' : List (Nat × Obj)} (hv : OwnSl 5 1 v' x'.length (u8s x') Lv') :
    ∃ L', VRep bf { s with F := s.F.set hb.i (r.p, x'), H := s.H.set k (some (hb.i, pl, hb.mo)), by_ := by' } L' ∧ ((hb.b, blk 93 [.pointer (some ⟨hb.fb, 0, none⟩), .int .i64 (pl : Nat), .int .i64 (hb.mo : Nat)]) :: (r.b, blk 89 [str r.p, v']) :: (bf, blk 81 (fsC mf md vh { s with by_ := by' })) :: (Lv' ++ rest2 mf md Lh Fs Ds Hs k hb.i)).Perm L' := by
  classical
  have hlt := (List.getElem?_eq_some_iff.1 hk).1
  have hlr := (List.getElem?_eq_some_iff.1 hr).1
  let hb2 : HB := { hb with pl := pl }
  let r2 : FB := { r with v := v', x := x', Lv := Lv' }
  have h1 := flat_shut (f := FB.own) (a := r2) hlr
  have h2 := flat_shut (f := HB.own) (a := some hb2) hlt
  have hval : (Hs.set k (some hb2)).map HB.val = Hs.map HB.val := by
    rw [List.map_set]
    apply List.ext_getElem?
    intro j
    by_cases hj : k = j
    · subst hj
      rw [List.getElem?_set_self (by simpa using hlt), List.getElem?_map, hk]
      rfl
    · rw [List.getElem?_set_ne hj]
  refine ⟨_, ⟨mf, md, vh, Lh, Fs.set hb.i r2, Ds, Hs.set k (some hb2), ⟨rfl, ?_, ?_, ?_, ?_, o.D, ?_⟩⟩, ?_⟩
  · rw [List.length_set, hval]
    exact o.vh
  · intro c hc
    rcases List.mem_or_eq_of_mem_set hc with h | h
    · exact o.fs c h
    · subst h
      exact hv
  · intro h hm
    have hgo : ∀ h : HB, some h ∈ Hs → ∃ r', (Fs.set hb.i r2)[h.i]? = some r' ∧ h.fb = r'.b := fun h hm => by
      have hobt := o.hs h hm
      obtain ⟨r', e1, e2⟩ := hobt
      by_cases he : hb.i = h.i
      · rw [← he] at e1 ⊢
        rw [hr] at e1
        cases e1
        exact ⟨r2, List.getElem?_set_self hlr, e2⟩
      · exact ⟨r', by rw [List.getElem?_set_ne he]; exact e1, e2⟩
    rcases List.mem_or_eq_of_mem_set hm with h1 | h1
    · exact hgo h h1
    · cases h1
      exact hgo hb (List.mem_of_getElem? hk)
  · show (Fs.set hb.i r2).map _ = s.F.set hb.i _
    rw [List.map_set, o.F]
  · show (Hs.set k (some hb2)).map _ = s.H.set k _
    rw [List.map_set, o.H]
    rfl
  · refine List.perm_iff_count.2 fun x => ?_
    have e1 := h1.count_eq x
    have e2 := h2.count_eq x
    have e3 : mapF (Fs.set hb.i r2) 0 = mapF Fs 0 := mapF_set Fs 0 hb.i r r2 hr rfl rfl
    simp only [rest2, FB.own, HB.own, fsC, List.count_append, List.count_cons, List.count_nil, List.length_set, e3] at e1 e2 ⊢
    simp only [r2, hb2] at e1 e2 ⊢
    omega
end
end Go.Gx
