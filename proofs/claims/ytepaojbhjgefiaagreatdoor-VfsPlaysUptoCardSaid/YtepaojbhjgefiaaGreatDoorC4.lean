/- Files in memory (vfs): what the program's FS stands for; its blocks. Files in memory: small methods. Files in memory: what is asked, nothing changed. path.Split, where path.Join is not there. Files in memory: May, Place, Used. Files in memory: Close. Files in memory: Read. Files in memory: Write. Files in memory: Write. -/
import Derived.Test.YtepaojbhjgefiaaGreatDoorC2
import Derived.Test.YtepaojbhjgefiaaGreatDoorTab
import Derived.Test.YtepaojbhjgefiaaGreatDoorC1
import Derived.Test.YtepaojbhjgefiaaGreatDoorC3
import Derived.Lib.LastIndexByte
set_option linter.unusedVariables false
set_option linter.unusedSimpArgs false
/-! Vs1 -/
namespace Go.Gx
open Go.Proofs Go.Proofs.Tryz
set_option maxRecDepth 100000
/-- Files, directories, handles, without addresses. -/
structure VS where
 F : List (List UInt8 × List UInt8)
 D : List (List UInt8 × Nat)
 H : List (Option (Nat × Nat × Nat))
 qb : Int
 qf : Int
 qo : Int
 by_ : Nat
 op : Nat
/-- A file, with its blocks. -/
structure FB where
 p : List UInt8
 b : Nat
 v : Value
 x : List UInt8
 Lv : List (Nat × Obj)
/-- A directory. -/
structure DB where
 p : List UInt8
 b : Nat
 n : Nat
/-- A handle that is open: its block, its file's block; the file's number, the place, the mode. -/
structure HB where
 b : Nat
 fb : Nat
 i : Nat
 pl : Nat
 mo : Nat
def FB.own (r : FB) : List (Nat × Obj) := (r.b, blk 67 [str r.p, r.v]) :: r.Lv
def DB.own (r : DB) : List (Nat × Obj) := [(r.b, blk 74 [str r.p, .int .i64 (r.n : Nat)])]
def HB.own : Option HB → List (Nat × Obj)
 | none => []
 | some h => [(h.b, blk 77 [.pointer (some ⟨h.fb, 0, none⟩), .int .i64 (h.pl : Nat), .int .i64 (h.mo : Nat)])]
def HB.val : Option HB → Value
 | none => .pointer none
 | some h => .pointer (some ⟨h.b, 0, none⟩)
def mapF : List FB → Nat → List SEnt
 | [], _ => []
 | r :: l, k => (r.p, .pointer (some ⟨r.b, 0, none⟩), k) :: mapF l (k + 1)
def mapDi : List DB → Nat → List SEnt
 | [], _ => []
 | r :: l, k => (r.p, .pointer (some ⟨r.b, 0, none⟩), k) :: mapDi l (k + 1)
def fsC (mf md : Nat) (vh : Value) (s : VS) : List Value := [.map (some mf), .map (some md), vh, .int .i64 s.qb, .int .i64 s.qf, .int .i64 s.qo, .int .i64 (s.by_ : Nat), .int .i64 (s.op : Nat)]
structure VOpen (bf : Nat) (s : VS) (L : List (Nat × Obj)) (mf md : Nat) (vh : Value) (Lh : List (Nat × Obj)) (Fs : List FB) (Ds : List DB) (Hs : List (Option HB)) : Prop where
 L : L = (bf, blk 61 (fsC mf md vh s)) :: (mf, mapS (mapF Fs 0) Fs.length) :: (md, mapS (mapDi Ds 0) Ds.length) :: (Lh ++ (Fs.flatMap FB.own ++ (Ds.flatMap DB.own ++ Hs.flatMap HB.own)))
 vh : OwnSl 75 1 vh Hs.length (Hs.map HB.val) Lh
 fs : ∀ r ∈ Fs, OwnSl 5 1 r.v r.x.length (u8s r.x) r.Lv
 hs : ∀ h, some h ∈ Hs → ∃ r, Fs[h.i]? = some r ∧ h.fb = r.b
 F : Fs.map (fun r => (r.p, r.x)) = s.F
 D : Ds.map (fun r => (r.p, r.n)) = s.D
 H : Hs.map (Option.map fun h => (h.i, h.pl, h.mo)) = s.H
/-- The FS at bf, with its own blocks L, stands for s. -/
def VRep (bf : Nat) (s : VS) (L : List (Nat × Obj)) : Prop := ∃ mf md vh Lh Fs Ds Hs, VOpen bf s L mf md vh Lh Fs Ds Hs
/-- How it is kept. -/
structure VS.Ok (s : VS) : Prop where
 h : s.H.length ≤ 1000
 f : s.F.length ≤ 65536
 d : s.D.length ≤ 65536
 x : ∀ e ∈ s.F, e.2.length ≤ 1048576
 at_ : ∀ i pl mo, some (i, pl, mo) ∈ s.H → pl ≤ 1048576 ∧ mo ≤ 3
 qb : -9223372036854775808 ≤ s.qb ∧ s.qb ≤ 67108864
 qf : -9223372036854775808 ≤ s.qf ∧ s.qf ≤ 65535
 qo : -9223372036854775808 ≤ s.qo ∧ s.qo ≤ 64
 by_ : s.by_ ≤ 67108864
 op : s.op ≤ 1000
section
variable {α β : Type}
theorem flat_open {f : α → List β} : ∀ {l : List α} {i : Nat} {a : α}, l[i]? = some a → (l.flatMap f).Perm (f a ++ (l.eraseIdx i).flatMap f)
 | [], i, a, h => by simp at h
 | c :: l, 0, a, h => by
  simp only [List.getElem?_cons_zero, Option.some.injEq] at h
  subst h
  simp
 | c :: l, i + 1, a, h => by
  rw [List.getElem?_cons_succ] at h
  rw [List.flatMap_cons, List.eraseIdx_cons_succ, List.flatMap_cons]
  exact ((flat_open h).append_left _).trans (List.perm_append_comm_assoc _ _ _)
theorem flat_shut {f : α → List β} {l : List α} {i : Nat} {a : α} (h : i < l.length) : (f a ++ (l.eraseIdx i).flatMap f).Perm ((l.set i a).flatMap f) := by
 have h1 := flat_open (f := f) (l := l.set i a) (i := i) (a := a) (by rw [List.getElem?_set_self h])
 rw [List.eraseIdx_set_eq] at h1
 exact h1.symm
theorem flat_mem {f : α → List β} {l : List α} {i : Nat} {a : α} {x : β} (h : l[i]? = some a) (hx : x ∈ f a) : x ∈ l.flatMap f := List.mem_flatMap.2 ⟨a, List.mem_of_getElem? h, hx⟩
end
section
variable {bf mf md : Nat} {s : VS} {L Lh : List (Nat × Obj)} {vh : Value} {Fs : List FB} {Ds : List DB} {Hs : List (Option HB)} {w : World}
theorem OwnSl.slW {E sz : Nat} {v : Value} {k : Nat} {xs : List Value} {Lv : List (Nat × Obj)} {w : World} (h : OwnSl E sz v k xs Lv) (hw : ∀ p ∈ Lv, w.heap[p.1]? = some p.2) : Sl w sz v k xs := by
 obtain ⟨hl, ⟨rfl, rfl, rfl⟩ | ⟨b, cap, more, rfl, rfl, hc⟩⟩ := h
 ·exact ⟨hl, .inl ⟨none, 0, rfl, rfl⟩⟩
 ·exact .mk hl (At.of_blk (hw (b, blk E (xs ++ more)) (by simp))).left
theorem VOpen.at (o : VOpen bf s L mf md vh Lh Fs Ds Hs) (hw : ∀ p ∈ L, w.heap[p.1]? = some p.2) : At w bf 0 (fsC mf md vh s) := At.of_blk (hw (bf, blk 61 (fsC mf md vh s)) (by rw [o.L]; simp))
theorem VOpen.mf_ (o : VOpen bf s L mf md vh Lh Fs Ds Hs) (hw : ∀ p ∈ L, w.heap[p.1]? = some p.2) : w.heap[mf]? = some (mapS (mapF Fs 0) Fs.length) := hw (mf, mapS (mapF Fs 0) Fs.length) (by rw [o.L]; simp)
theorem VOpen.md_ (o : VOpen bf s L mf md vh Lh Fs Ds Hs) (hw : ∀ p ∈ L, w.heap[p.1]? = some p.2) : w.heap[md]? = some (mapS (mapDi Ds 0) Ds.length) := hw (md, mapS (mapDi Ds 0) Ds.length) (by rw [o.L]; simp)
theorem VOpen.hsl (o : VOpen bf s L mf md vh Lh Fs Ds Hs) (hw : ∀ p ∈ L, w.heap[p.1]? = some p.2) : Sl w 1 vh Hs.length (Hs.map HB.val) := o.vh.slW fun p hp => hw p (by rw [o.L]; simp [hp])
theorem VOpen.hat (o : VOpen bf s L mf md vh Lh Fs Ds Hs) (hw : ∀ p ∈ L, w.heap[p.1]? = some p.2) {i : Nat} {h : HB} (hi : Hs[i]? = some (some h)) : At w h.b 0 [.pointer (some ⟨h.fb, 0, none⟩), .int .i64 (h.pl : Nat), .int .i64 (h.mo : Nat)] := by
 have hm : (h.b, blk 77 [.pointer (some ⟨h.fb, 0, none⟩), .int .i64 (h.pl : Nat), .int .i64 (h.mo : Nat)]) ∈ Hs.flatMap HB.own := flat_mem hi (by simp [HB.own])
 exact At.of_blk (hw (h.b, blk 77 [.pointer (some ⟨h.fb, 0, none⟩), .int .i64 (h.pl : Nat), .int .i64 (h.mo : Nat)]) (by rw [o.L]; simp only [List.mem_cons, List.mem_append]; exact .inr (.inr (.inr (.inr (.inr (.inr hm)))))))
theorem VOpen.fat (o : VOpen bf s L mf md vh Lh Fs Ds Hs) (hw : ∀ p ∈ L, w.heap[p.1]? = some p.2) {i : Nat} {r : FB} (hi : Fs[i]? = some r) : At w r.b 0 [str r.p, r.v] ∧ Sl w 1 r.v r.x.length (u8s r.x) := by
 have hsub : ∀ p ∈ r.own, p ∈ L := fun p hp => by
  have hm : p ∈ Fs.flatMap FB.own := flat_mem hi hp
  rw [o.L]
  simp only [List.mem_cons, List.mem_append]
  exact .inr (.inr (.inr (.inr (.inl hm))))
 exact ⟨At.of_blk (hw (r.b, blk 67 [str r.p, r.v]) (hsub _ (by simp [FB.own]))), (o.fs r (List.mem_of_getElem? hi)).slW fun p hp => hw p (hsub p (by simp [FB.own, hp]))⟩
/-- The handle of a number, if it is open. -/
def VS.is (s : VS) (h : Int) : Option (Nat × Nat × Nat) := if 0 ≤ h then (s.H[h.toNat]?).join else none
end
end Go.Gx
/-! Vs2 -/
namespace Go.Gx
open Go.Proofs Go.Proofs.Tryz
set_option maxRecDepth 100000
section
variable {P : Program} {f : Slots} {w : World} {d : Option Tmp} {ty : TypeId} {pos : String} {af : Array Edge} {x y : Operand} {T T' E : TypeId} {a : Addr}
theorem run_ptrNil (hT : P.underlying T = some (.pointer E)) (hx : ev f x = .pointer (some a)) (hy : ev f y = .pointer none) : (execOp (ev f) ⟨d, .binOp .eql T x y T', ty, pos, af, none⟩).run P w = .ok (.value (.bool false)) w := by
 have h0 : ∀ d, (Op.equalIn (d + 1) T (.pointer (some a)) (.pointer none)).run P w = .ok false w := fun d => by simp [Op.equalIn, run_underlying hT, sameAddr]
 have h : (Op.equal T (.pointer (some a)) (.pointer none)).run P w = .ok false w := h0 9999
 simp [execOp, hx, hy, eqGuard, binOp, h]
theorem run_ptrNilNe (hT : P.underlying T = some (.pointer E)) (hx : ev f x = .pointer (some a)) (hy : ev f y = .pointer none) : (execOp (ev f) ⟨d, .binOp .neq T x y T', ty, pos, af, none⟩).run P w = .ok (.value (.bool true)) w := by
 have h0 : ∀ d, (Op.equalIn (d + 1) T (.pointer (some a)) (.pointer none)).run P w = .ok false w := fun d => by simp [Op.equalIn, run_underlying hT, sameAddr]
 have h : (Op.equal T (.pointer (some a)) (.pointer none)).run P w = .ok false w := h0 9999
 simp [execOp, hx, hy, eqGuard, binOp, h]
theorem run_nilNil (hT : P.underlying T = some (.pointer E)) (hx : ev f x = .pointer none) (hy : ev f y = .pointer none) : (execOp (ev f) ⟨d, .binOp .eql T x y T', ty, pos, af, none⟩).run P w = .ok (.value (.bool true)) w := by
 have h0 : ∀ d, (Op.equalIn (d + 1) T (.pointer none) (.pointer none)).run P w = .ok true w := fun d => by simp [Op.equalIn, run_underlying hT, sameAddr]
 have h : (Op.equal T (.pointer none) (.pointer none)).run P w = .ok true w := h0 9999
 simp [execOp, hx, hy, eqGuard, binOp, h]
theorem run_nilNe (hT : P.underlying T = some (.pointer E)) (hx : ev f x = .pointer none) (hy : ev f y = .pointer none) : (execOp (ev f) ⟨d, .binOp .neq T x y T', ty, pos, af, none⟩).run P w = .ok (.value (.bool false)) w := by
 have h0 : ∀ d, (Op.equalIn (d + 1) T (.pointer none) (.pointer none)).run P w = .ok true w := fun d => by simp [Op.equalIn, run_underlying hT, sameAddr]
 have h : (Op.equal T (.pointer none) (.pointer none)).run P w = .ok true w := h0 9999
 simp [execOp, hx, hy, eqGuard, binOp, h]
end
theorem Sl.based {w : World} {v : Value} {n : Nat} {cs : List Value} (h : Sl w 1 v n cs) (h0 : 0 < n) : ∃ b off c, v = .slice (some ⟨b, off, none⟩) n c ∧ At w b off cs := by
 obtain ⟨hl, ⟨a, c, hc, h1⟩ | ⟨b, off, c, hc, hat⟩⟩ := h
 ·omega
 ·exact ⟨b, off, c, hc, hat⟩
section
variable {bf mf md : Nat} {s : VS} {L Lh : List (Nat × Obj)} {vh : Value} {Fs : List FB} {Ds : List DB} {Hs : List (Option HB)} {w0 : World}
theorem VOpen.his (o : VOpen bf s L mf md vh Lh Fs Ds Hs) (h : Int) : (s.is h = none ∧ (h < 0 ∨ (Hs.length : Int) ≤ h ∨ ∃ k : Nat, h = k ∧ Hs[k]? = some none)) ∨ ∃ (k : Nat) (hb : HB), h = k ∧ Hs[k]? = some (some hb) ∧ s.is h = some (hb.i, hb.pl, hb.mo) := by
 have hH := o.H
 by_cases h0 : 0 ≤ h
 ·have hobt : ∃ k : Nat, h = k := ⟨h.toNat, by omega⟩
  obtain ⟨k, rfl⟩ := hobt
  have e : s.is (k : Int) = (s.H[k]?).join := by unfold VS.is; rw [if_pos h0, Int.toNat_natCast]
  rw [e, ← hH, List.getElem?_map]
  cases hk : Hs[k]? with
  | none =>
   refine .inl ⟨rfl, .inr (.inl ?_)⟩
   have := List.getElem?_eq_none_iff.1 hk
   omega
  | some x =>
   cases x with
   | none => exact .inl ⟨rfl, .inr (.inr ⟨k, rfl, hk⟩)⟩
   | some hb => exact .inr ⟨k, hb, rfl, hk, rfl⟩
 ·refine .inl ⟨?_, .inl (by omega)⟩
  unfold VS.is
  rw [if_neg h0]
theorem is_none (o : VOpen bf s L mf md vh Lh Fs Ds Hs) (ok : s.Ok) (hw : ∀ p ∈ L, w0.heap[p.1]? = some p.2) {h : Int} (hn : s.is h = none) : Calls Tryz.prog 65 #[.pointer (some ⟨bf, 0, none⟩), .int .i64 h] w0 (Ret0 (.tuple #[.pointer none, .int .i64 95]) w0) := by
 have hs : Step [] [] w0 w0 := Step.refl w0
 have hat := o.at hw
 have hsl := o.hsl hw
 have hobt := hsl.form
 obtain ⟨ah, ch, rfl⟩ := hobt
 have hlen : Hs.length ≤ 1000 := by have := ok.h; rw [← o.H, List.length_map] at this; exact this
 rcases o.his h with ⟨_, hc⟩ | ⟨k, hb, rfl, h1, h2⟩
 ·rcases hc with hc | hc | ⟨k, rfl, hk⟩
  ·refine calls (n := 34) Tryz.func65 rfl rfl rfl ?_
   refine cQ <| cR <| wa rfl <| wa rfl <| wZ <| cQ <| cQ <| cR <| wm rfl <| wV rfl (run_bT (run_lss rfl rfl) (by omega)) <| wm rfl <| WL.no rfl rfl rfl (.inl rfl) <| WL.no rfl rfl rfl (.inl rfl) <| WL.no rfl rfl rfl (.inl rfl) <| WL.no rfl rfl rfl (.inl rfl) <| WL.no rfl rfl rfl (.inl rfl) <| WL.no rfl rfl rfl (.inl rfl) <| WL.no rfl rfl rfl (.inl rfl) <| wV rfl (run_pickT rfl) <| wm rfl <| WL.no rfl rfl rfl (.inl rfl) <| WL.no rfl rfl rfl (.inl rfl) <| WL.no rfl rfl rfl (.inl rfl) <| WL.no rfl rfl rfl (.inl rfl) <| WL.no rfl rfl rfl (.inl rfl) <| WL.no rfl rfl rfl (.inl rfl) <| WL.no rfl rfl rfl (.inl rfl) <| WL.no rfl rfl rfl (.inl rfl) <| wV rfl (run_pickT rfl) <| wZ ?_
   refine cC rfl (fun h => ?_) (fun h => ?_)
   ·refine cQ <| cR <| wa rfl <| wa rfl <| wZ ?_
    refine CW.ret ?_
    refine fin_ret2 rfl ?_
    exact ⟨rfl, hs⟩
   ·cases h
  ·by_cases hneg : h < 0
   ·refine calls (n := 34) Tryz.func65 rfl rfl rfl ?_
    refine cQ <| cR <| wa rfl <| wa rfl <| wZ <| cQ <| cQ <| cR <| wm rfl <| wV rfl (run_bT (run_lss rfl rfl) (by omega)) <| wm rfl <| WL.no rfl rfl rfl (.inl rfl) <| WL.no rfl rfl rfl (.inl rfl) <| WL.no rfl rfl rfl (.inl rfl) <| WL.no rfl rfl rfl (.inl rfl) <| WL.no rfl rfl rfl (.inl rfl) <| WL.no rfl rfl rfl (.inl rfl) <| WL.no rfl rfl rfl (.inl rfl) <| wV rfl (run_pickT rfl) <| wm rfl <| WL.no rfl rfl rfl (.inl rfl) <| WL.no rfl rfl rfl (.inl rfl) <| WL.no rfl rfl rfl (.inl rfl) <| WL.no rfl rfl rfl (.inl rfl) <| WL.no rfl rfl rfl (.inl rfl) <| WL.no rfl rfl rfl (.inl rfl) <| WL.no rfl rfl rfl (.inl rfl) <| WL.no rfl rfl rfl (.inl rfl) <| wV rfl (run_pickT rfl) <| wZ ?_
    refine cC rfl (fun h => ?_) (fun h => ?_)
    ·refine cQ <| cR <| wa rfl <| wa rfl <| wZ ?_
     refine CW.ret ?_
     refine fin_ret2 rfl ?_
     exact ⟨rfl, hs⟩
    ·cases h
   ·refine calls (n := 34) Tryz.func65 rfl rfl rfl ?_
    refine cQ <| cR <| wa rfl <| wa rfl <| wZ <| cQ <| cQ <| cR <| wm rfl <| wV rfl (run_bF (run_lss rfl rfl) (by omega)) <| wm rfl <| WL.yes rfl rfl rfl <| wm rfl <| WL.yes rfl rfl rfl <| wm rfl <| WL.yes rfl rfl rfl <| wn rfl rfl <| WL.yes rfl rfl rfl <| wV rfl (run_field (o' := 2) underlying61 rfl ty59 rfl rfl rfl) <| WL.yes rfl rfl rfl <| wV rfl (run_load1 ty59 rfl ((hat.step hs (by simp)).cell (j := 2) rfl)) <| WL.yes rfl rfl rfl <| wV rfl (run_lenSl underlying59 rfl) <| WL.yes rfl rfl rfl <| wV rfl (run_bT (run_geq rfl rfl) (by omega)) <| wV rfl (run_pickF rfl) <| wm rfl <| WL.no rfl rfl rfl (.inl rfl) <| WL.no rfl rfl rfl (.inl rfl) <| WL.no rfl rfl rfl (.inl rfl) <| WL.no rfl rfl rfl (.inl rfl) <| WL.no rfl rfl rfl (.inl rfl) <| WL.no rfl rfl rfl (.inl rfl) <| WL.no rfl rfl rfl (.inl rfl) <| WL.no rfl rfl rfl (.inl rfl) <| wV rfl (run_pickT rfl) <| wZ ?_
    refine cC rfl (fun h => ?_) (fun h => ?_)
    ·refine cQ <| cR <| wa rfl <| wa rfl <| wZ ?_
     refine CW.ret ?_
     refine fin_ret2 rfl ?_
     exact ⟨rfl, hs⟩
    ·cases h
  ·have hlt := (List.getElem?_eq_some_iff.1 hk).1
   have hobt := hsl.based (by omega)
   obtain ⟨b, off, c, hc, hsat⟩ := hobt
   cases hc
   refine calls (n := 34) Tryz.func65 rfl rfl rfl ?_
   refine cQ <| cR <| wa rfl <| wa rfl <| wZ <| cQ <| cQ <| cR <| wm rfl <| wV rfl (run_bF (run_lss rfl rfl) (by omega)) <| wm rfl <| WL.yes rfl rfl rfl <| wm rfl <| WL.yes rfl rfl rfl <| wm rfl <| WL.yes rfl rfl rfl <| wn rfl rfl <| WL.yes rfl rfl rfl <| wV rfl (run_field (o' := 2) underlying61 rfl ty59 rfl rfl rfl) <| WL.yes rfl rfl rfl <| wV rfl (run_load1 ty59 rfl ((hat.step hs (by simp)).cell (j := 2) rfl)) <| WL.yes rfl rfl rfl <| wV rfl (run_lenSl underlying59 rfl) <| WL.yes rfl rfl rfl <| wV rfl (run_bF (run_geq rfl rfl) (by omega)) <| wV rfl (run_pickF rfl) <| wm rfl <| WL.yes rfl rfl rfl <| wm rfl ?_
   refine WL.yes rfl rfl rfl <| wn rfl rfl <| WL.yes rfl rfl rfl <| wV rfl (run_field (o' := 2) underlying61 rfl ty59 rfl rfl rfl) <| WL.yes rfl rfl rfl <| wV rfl (run_load1 ty59 rfl ((hat.step hs (by simp)).cell (j := 2) rfl)) <| WL.yes rfl rfl rfl <| wm rfl ?_
   refine WL.yes rfl rfl rfl ?_; (first | refine wV rfl (run_ixSlN underlying59 ty75 rfl rfl (by omega)) ?_ | refine wV rfl (run_ixSl underlying59 ty75 rfl rfl (by omega)) ?_)
   refine WL.yes rfl rfl rfl ?_
   refine wV rfl (run_load1 ty75 rfl ((hsat.step hs (by simp)).cell (j := k * 1) (v := .pointer none) (by rw [Nat.mul_one, List.getElem?_map, hk]; rfl))) ?_
   refine WL.yes rfl rfl rfl <| wV rfl (run_nilNil underlying75 rfl rfl) <| wV rfl (run_pickF rfl) <| wZ ?_
   refine cC rfl (fun h => ?_) (fun h => ?_)
   ·refine cQ <| cR <| wa rfl <| wa rfl <| wZ ?_
    refine CW.ret ?_
    refine fin_ret2 rfl ?_
    exact ⟨rfl, hs⟩
   ·cases h
 ·rw [h2] at hn
  cases hn
theorem is_some (o : VOpen bf s L mf md vh Lh Fs Ds Hs) (ok : s.Ok) (hw : ∀ p ∈ L, w0.heap[p.1]? = some p.2) {k : Nat} {hb : HB} (hk : Hs[k]? = some (some hb)) : Calls Tryz.prog 65 #[.pointer (some ⟨bf, 0, none⟩), .int .i64 (k : Nat)] w0 (Ret0 (.tuple #[.pointer (some ⟨hb.b, 0, none⟩), .int .i64 0]) w0) := by
 have hs : Step [] [] w0 w0 := Step.refl w0
 have hat := o.at hw
 have hsl := o.hsl hw
 have hobt := hsl.form
 obtain ⟨ah, ch, rfl⟩ := hobt
 have hlen : Hs.length ≤ 1000 := by have := ok.h; rw [← o.H, List.length_map] at this; exact this
 have hlt := (List.getElem?_eq_some_iff.1 hk).1
 have hobt := hsl.based (by omega)
 obtain ⟨b, off, c, hc, hsat⟩ := hobt
 cases hc
 have hcell : ∀ {w : World}, Step [] [] w0 w → w.cell? ⟨b, off + k * 1, none⟩ = some (.pointer (some ⟨hb.b, 0, none⟩)) := fun hs => by
  rw [Nat.mul_one]
  exact (hsat.step hs (by simp)).cell (by rw [List.getElem?_map, hk]; rfl)
 refine calls (n := 34) Tryz.func65 rfl rfl rfl ?_
 refine cQ <| cR <| wa rfl <| wa rfl <| wZ <| cQ <| cQ <| cR <| wm rfl <| wV rfl (run_bF (run_lss rfl rfl) (by omega)) <| wm rfl <| WL.yes rfl rfl rfl <| wm rfl <| WL.yes rfl rfl rfl <| wm rfl <| WL.yes rfl rfl rfl <| wn rfl rfl <| WL.yes rfl rfl rfl <| wV rfl (run_field (o' := 2) underlying61 rfl ty59 rfl rfl rfl) <| WL.yes rfl rfl rfl <| wV rfl (run_load1 ty59 rfl ((hat.step hs (by simp)).cell (j := 2) rfl)) <| WL.yes rfl rfl rfl <| wV rfl (run_lenSl underlying59 rfl) <| WL.yes rfl rfl rfl <| wV rfl (run_bF (run_geq rfl rfl) (by omega)) <| wV rfl (run_pickF rfl) <| wm rfl <| WL.yes rfl rfl rfl <| wm rfl ?_
 refine WL.yes rfl rfl rfl <| wn rfl rfl <| WL.yes rfl rfl rfl <| wV rfl (run_field (o' := 2) underlying61 rfl ty59 rfl rfl rfl) <| WL.yes rfl rfl rfl <| wV rfl (run_load1 ty59 rfl ((hat.step hs (by simp)).cell (j := 2) rfl)) <| WL.yes rfl rfl rfl <| wm rfl ?_
 refine WL.yes rfl rfl rfl ?_; (first | refine wV rfl (run_ixSlN underlying59 ty75 rfl rfl (by omega)) ?_ | refine wV rfl (run_ixSl underlying59 ty75 rfl rfl (by omega)) ?_)
 refine WL.yes rfl rfl rfl <| wV rfl (run_load1 ty75 rfl ((hcell hs))) <| WL.yes rfl rfl rfl <| wV rfl (run_ptrNil underlying75 rfl rfl) <| wV rfl (run_pickF rfl) <| wZ ?_
 refine cC rfl (fun h => ?_) (fun h => ?_)
 ·cases h
 repeat (first | refine cQ ?_ | refine cK ?_)
 refine cR <| wm rfl <| wn rfl rfl <| wV rfl (run_field (o' := 2) underlying61 rfl ty59 rfl rfl rfl) <| wV rfl (run_load1 ty59 rfl ((hat.step hs (by simp)).cell (j := 2) rfl)) <| wm rfl <| wV rfl (run_ixSlN underlying59 ty75 rfl rfl (by omega)) <| wV rfl (run_load1 ty75 rfl ((hcell hs))) <| wa rfl <| wa rfl <| wZ ?_
 refine CW.ret ?_
 refine fin_ret2 rfl ?_
 exact ⟨rfl, hs⟩
theorem from_spec (o : VOpen bf s L mf md vh Lh Fs Ds Hs) (hw : ∀ p ∈ L, w0.heap[p.1]? = some p.2) {k : Nat} {hb : HB} {r : FB} (hk : Hs[k]? = some (some hb)) (hr : Fs[hb.i]? = some r) (hfb : hb.fb = r.b) : Calls Tryz.prog 49 #[.pointer (some ⟨hb.b, 0, none⟩)] w0 (Ret0 (.int .i64 ((if hb.mo = 3 then r.x.length else hb.pl : Nat) : Int)) w0) := by
 have hs : Step [] [] w0 w0 := Step.refl w0
 have hat := o.hat hw hk
 have hobt := o.fat hw hr
 obtain ⟨hf, hsl⟩ := hobt
 rw [← hfb] at hf
 have hobt := hsl.form
 obtain ⟨av, cv, hv⟩ := hobt
 by_cases h3 : hb.mo = 3
 ·rw [if_pos h3]
  refine calls (n := 20) Tryz.func49 rfl rfl rfl ?_
  refine cQ <| cR <| wa rfl <| wZ <| cQ <| cQ <| cR <| wm rfl <| wn rfl rfl <| wV rfl (run_field (o' := 2) underlying77 rfl ty3 rfl rfl rfl) <| wV rfl (run_load1 ty3 rfl ((hat.step hs (by simp)).cell (j := 2) rfl)) <| wV rfl (run_bT (run_eql rfl rfl) (by omega)) <| wZ ?_
  refine cC rfl (fun h => ?_) (fun h => ?_)
  ·refine cQ <| cR <| wm rfl <| wn rfl rfl <| wV rfl (run_field (o' := 0) underlying77 rfl ty62 rfl rfl rfl) <| wV rfl (run_load1 ty62 rfl ((hat.step hs (by simp)).cell (j := 0) rfl)) <| wn rfl rfl <| wV rfl (run_field (o' := 1) underlying67 rfl ty38 rfl rfl rfl) <| wV rfl (run_load1 ty38 rfl ((hf.step hs (by simp)).cell (j := 1) (v := .slice av r.x.length cv) (by rw [← hv]; rfl))) <| wV rfl (run_lenSl underlying38 rfl) <| wa rfl <| wZ ?_
   refine CW.ret ?_
   refine fin_ret1 rfl ?_
   exact ⟨rfl, hs⟩
  ·cases h
 ·rw [if_neg h3]
  refine calls (n := 20) Tryz.func49 rfl rfl rfl ?_
  refine cQ <| cR <| wa rfl <| wZ <| cQ <| cQ <| cR <| wm rfl <| wn rfl rfl <| wV rfl (run_field (o' := 2) underlying77 rfl ty3 rfl rfl rfl) <| wV rfl (run_load1 ty3 rfl ((hat.step hs (by simp)).cell (j := 2) rfl)) <| wV rfl (run_bF (run_eql rfl rfl) (by omega)) <| wZ ?_
  refine cC rfl (fun h => ?_) (fun h => ?_)
  ·cases h
  repeat (first | refine cQ ?_ | refine cK ?_)
  refine cR <| wm rfl <| wn rfl rfl <| wV rfl (run_field (o' := 1) underlying77 rfl ty3 rfl rfl rfl) <| wV rfl (run_load1 ty3 rfl ((hat.step hs (by simp)).cell (j := 1) rfl)) <| wa rfl <| wZ ?_
  refine CW.ret ?_
  refine fin_ret1 rfl ?_
  exact ⟨rfl, hs⟩
end
end Go.Gx
/-! Vs3 -/
namespace Go.Gx
open Go.Proofs Go.Proofs.Tryz
set_option maxRecDepth 100000
section
variable {P : Program} {f : Slots} {w : World} {d : Option Tmp} {ty : TypeId} {pos : String} {af : Array Edge} {x y : Operand} {ats : Array TypeId} {k : IntKind} {a b c : Int}
theorem run_max {P : Program} {f : Slots} {w : World} {d : Option Tmp} {ty : TypeId} {pos : String} {af : Array Edge} {x y : Operand} {ats : Array TypeId} {k : IntKind} {a b : Int} (hx : ev f x = .int k a) (hy : ev f y = .int k b) :
  (execOp (ev f) ⟨d, .call { callee := .builtin .max, args := #[x, y], argTypes := ats }, ty, pos, af, none⟩).run P w = .ok (.value (.int k (if b > a then b else a))) w := by
 simp [execOp, resolve, invoke, builtin, hx, hy, Builtin.max_, Builtin.max2]
theorem run_maxE (hx : ev f x = .int k a) (hy : ev f y = .int k b) (h : c = max a b) : (execOp (ev f) ⟨d, .call { callee := .builtin .max, args := #[x, y], argTypes := ats }, ty, pos, af, none⟩).run P w = .ok (.value (.int k c)) w := by
 rw [run_max hx hy, h]
 congr 3
 split <;> omega
theorem run_min (hx : ev f x = .int k a) (hy : ev f y = .int k b) : (execOp (ev f) ⟨d, .call { callee := .builtin .min, args := #[x, y], argTypes := ats }, ty, pos, af, none⟩).run P w = .ok (.value (.int k (if b < a then b else a))) w := by
 by_cases h : b < a <;> simp [execOp, resolve, invoke, builtin, Builtin.min_, Builtin.min2, hx, hy, h]
theorem run_minE (hx : ev f x = .int k a) (hy : ev f y = .int k b) (h : c = min a b) : (execOp (ev f) ⟨d, .call { callee := .builtin .min, args := #[x, y], argTypes := ats }, ty, pos, af, none⟩).run P w = .ok (.value (.int k c)) w := by
 rw [run_min hx hy, h]
 congr 3
 split <;> omega
end
/-- How long a file is. -/
def VS.len (s : VS) (i : Nat) : Nat := ((s.F[i]?).map (·.2.length)).getD 0
def VS.peek (s : VS) (h n : Int) : Int × Int := match s.is h with
 | none => (0, 95)
 | some (i, pl, mo) => if mo ≠ 0 then (0, 94) else if n < 0 then (0, 1) else (min n (max 0 ((s.len i : Int) - pl)), 0)
/-- Where a write of a handle begins. -/
def VS.from_ (s : VS) (i pl mo : Nat) : Nat := if mo = 3 then s.len i else pl
def VS.may (s : VS) (h n : Int) : Int := match s.is h with
 | none => 95
 | some (i, pl, mo) => if mo = 0 then 94 else if n < 0 then 1 else if n = 0 then 0 else if 1048576 - (s.from_ i pl mo : Int) < n then 96 else if s.qb < (s.by_ : Int) + max 0 ((s.from_ i pl mo : Int) + n - s.len i) then 96 else 0
section
variable {bf mf md : Nat} {s : VS} {L Lh : List (Nat × Obj)} {vh : Value} {Fs : List FB} {Ds : List DB} {Hs : List (Option HB)} {w0 : World}
theorem VOpen.len_ (o : VOpen bf s L mf md vh Lh Fs Ds Hs) {i : Nat} {r : FB} (hr : Fs[i]? = some r) : s.len i = r.x.length := by
 unfold VS.len
 rw [← o.F, List.getElem?_map, hr]
 rfl
theorem VOpen.file (o : VOpen bf s L mf md vh Lh Fs Ds Hs) {k : Nat} {hb : HB} (hk : Hs[k]? = some (some hb)) : ∃ r, Fs[hb.i]? = some r ∧ hb.fb = r.b := o.hs hb (List.mem_of_getElem? hk)
theorem VOpen.bnd (o : VOpen bf s L mf md vh Lh Fs Ds Hs) (ok : s.Ok) {k : Nat} {hb : HB} {r : FB} (hk : Hs[k]? = some (some hb)) (hr : Fs[hb.i]? = some r) : hb.pl ≤ 1048576 ∧ hb.mo ≤ 3 ∧ r.x.length ≤ 1048576 := by
 have h1 := ok.at_ hb.i hb.pl hb.mo (by rw [← o.H]; exact List.mem_map.2 ⟨some hb, List.mem_of_getElem? hk, rfl⟩)
 have h2 := ok.x (r.p, r.x) (by rw [← o.F]; exact List.mem_map.2 ⟨r, List.mem_of_getElem? hr, rfl⟩)
 exact ⟨h1.1, h1.2, h2⟩
theorem peek_spec (o : VOpen bf s L mf md vh Lh Fs Ds Hs) (ok : s.Ok) (hw : ∀ p ∈ L, w0.heap[p.1]? = some p.2) {h n : Int} (hn : -9223372036854775808 ≤ n ∧ n ≤ 9223372036854775807) : Calls Tryz.prog 29 #[.pointer (some ⟨bf, 0, none⟩), .int .i64 h, .int .i64 n] w0 (Ret0 (.tuple #[.int .i64 (s.peek h n).1, .int .i64 (s.peek h n).2]) w0) := by
 have hs : Step [] [] w0 w0 := Step.refl w0
 have hlw : ∀ {w : World}, Step [] [] w0 w → ∀ p ∈ L, w.heap[p.1]? = some p.2 := fun hs p hp => hs.old (hw p hp) (by simp)
 rcases o.his h with ⟨hi, _⟩ | ⟨k, hb, rfl, hk, hi⟩
 ·rw [show s.peek h n = (0, 95) by unfold VS.peek; rw [hi]]
  refine calls (n := 45) Tryz.func29 rfl rfl rfl ?_
  refine cQ <| cR <| wa rfl <| wa rfl <| wZ <| cQ <| cR <| wm rfl <| wm rfl ?_
  refine wE rfl (run_call en65 rfl rfl) (is_none o ok (hlw hs) hi) ?_
  rintro e w ⟨rfl, hq⟩
  refine ⟨_, rfl, ?_⟩
  replace hs := hs.callE hq
  refine wm rfl <| wx rfl rfl rfl <| wx rfl rfl rfl <| wa rfl <| wa rfl <| wZ ?_
  repeat (first | refine cQ ?_ | refine CW.block ?_)
  refine cR <| wm rfl <| wV rfl (run_bT (run_neq rfl rfl) (by decide)) <| wa rfl <| wZ ?_
  refine cC rfl (fun h => ?_) (fun h => ?_)
  ·refine cQ <| cR <| wm rfl <| wa rfl <| wa rfl <| wZ ?_
   refine CW.ret ?_
   refine fin_ret2 rfl ?_
   exact ⟨rfl, hs⟩
  ·cases h
 ·have hobt := o.file hk
  obtain ⟨r, hr, hfb⟩ := hobt
  have hobt := o.bnd ok hk hr
  obtain ⟨b1, b2, b3⟩ := hobt
  have hl := o.len_ hr
  have hat := o.hat hw hk
  have hobt := o.fat hw hr
  obtain ⟨hf, hsl⟩ := hobt
  rw [← hfb] at hf
  have hobt := hsl.form
  obtain ⟨av, cv, hv⟩ := hobt
  by_cases h0 : hb.mo = 0
  ·by_cases hneg : n < 0
   ·rw [show s.peek (k : Int) n = (0, 1) by unfold VS.peek; rw [hi]; simp only; rw [if_neg (by omega), if_pos hneg]]
    refine calls (n := 45) Tryz.func29 rfl rfl rfl ?_
    refine cQ <| cR <| wa rfl <| wa rfl <| wZ <| cQ <| cR <| wm rfl <| wm rfl ?_
    refine wE rfl (run_call en65 rfl rfl) (is_some o ok (hlw hs) hk) ?_
    rintro e w ⟨rfl, hq⟩
    refine ⟨_, rfl, ?_⟩
    replace hs := hs.callE hq
    refine wm rfl <| wx rfl rfl rfl <| wx rfl rfl rfl <| wa rfl <| wa rfl <| wZ ?_
    repeat (first | refine cQ ?_ | refine CW.block ?_)
    refine cR <| wm rfl <| wV rfl (run_bF (run_neq rfl rfl) (by decide)) <| wa rfl <| wZ ?_
    refine cC rfl (fun h => ?_) (fun h => ?_)
    ·cases h
    refine cQ <| cR <| wm rfl <| wn rfl rfl <| wV rfl (run_field (o' := 2) underlying77 rfl ty3 rfl rfl rfl) <| wV rfl (run_load1 ty3 rfl ((hat.step hs (by simp)).cell (j := 2) rfl)) <| wV rfl (run_bF (run_neq rfl rfl) (by omega)) <| wa rfl <| wZ ?_
    refine cC rfl (fun h => ?_) (fun h => ?_)
    ·cases h
    refine cQ <| cR <| wm rfl <| wV rfl (run_bT (run_lss rfl rfl) (by omega)) <| wa rfl <| wZ ?_
    refine cC rfl (fun h => ?_) (fun h => ?_)
    ·refine cQ <| cR <| wa rfl <| wa rfl <| wZ ?_
     refine CW.ret ?_
     refine fin_ret2 rfl ?_
     exact ⟨rfl, hs⟩
    ·cases h
   ·rw [show s.peek (k : Int) n = (min n (max 0 ((r.x.length : Int) - hb.pl)), 0) by unfold VS.peek; rw [hi]; simp only; rw [if_neg (by omega), if_neg hneg, hl]]
    refine calls (n := 45) Tryz.func29 rfl rfl rfl ?_
    refine cQ <| cR <| wa rfl <| wa rfl <| wZ <| cQ <| cR <| wm rfl <| wm rfl ?_
    refine wE rfl (run_call en65 rfl rfl) (is_some o ok (hlw hs) hk) ?_
    rintro e w ⟨rfl, hq⟩
    refine ⟨_, rfl, ?_⟩
    replace hs := hs.callE hq
    refine wm rfl <| wx rfl rfl rfl <| wx rfl rfl rfl <| wa rfl <| wa rfl <| wZ ?_
    repeat (first | refine cQ ?_ | refine CW.block ?_)
    refine cR <| wm rfl <| wV rfl (run_bF (run_neq rfl rfl) (by decide)) <| wa rfl <| wZ ?_
    refine cC rfl (fun h => ?_) (fun h => ?_)
    ·cases h
    refine cQ <| cR <| wm rfl <| wn rfl rfl <| wV rfl (run_field (o' := 2) underlying77 rfl ty3 rfl rfl rfl) <| wV rfl (run_load1 ty3 rfl ((hat.step hs (by simp)).cell (j := 2) rfl)) <| wV rfl (run_bF (run_neq rfl rfl) (by omega)) <| wa rfl <| wZ ?_
    refine cC rfl (fun h => ?_) (fun h => ?_)
    ·cases h
    refine cQ <| cR <| wm rfl <| wV rfl (run_bF (run_lss rfl rfl) (by omega)) <| wa rfl <| wZ ?_
    refine cC rfl (fun h => ?_) (fun h => ?_)
    ·cases h
    repeat (first | refine cQ ?_ | refine cK ?_)
    refine CW.quiet mixedP (by kernel_rfl) hs ?_
    refine qm rfl <| qm rfl <| qn rfl rfl <| qV rfl (fun w hs => run_field (o' := 0) underlying77 rfl ty62 rfl rfl rfl) <| qV rfl (fun w hs => run_load1 ty62 rfl ((hat.step hs (by simp)).cell (j := 0) rfl)) <| qn rfl rfl <| qV rfl (fun w hs => run_field (o' := 1) underlying67 rfl ty38 rfl rfl rfl) ?_
    refine qV rfl (fun w hs => run_load1 ty38 rfl ((hf.step hs (by simp)).cell (j := 1) (v := .slice av r.x.length cv) (by rw [← hv]; rfl))) ?_
    refine qV rfl (fun w hs => run_lenSl underlying38 rfl) <| qm rfl <| qn rfl rfl <| qV rfl (fun w hs => run_field (o' := 1) underlying77 rfl ty3 rfl rfl rfl) <| qV rfl (fun w hs => run_load1 ty3 rfl ((hat.step hs (by simp)).cell (j := 1) rfl)) <| qV rfl (fun w hs => run_sub (c := ((r.x.length : Int) - hb.pl)) rfl rfl (by omega) (by omega)) <| qV rfl (fun w hs => run_maxE rfl rfl rfl) <| qV rfl (fun w hs => run_minE rfl rfl rfl) <| qV rfl (fun w hs => run_assign) <| qV rfl (fun w hs => run_assign) ?_
    refine QL.nil (fun w hs => ?_)
    refine CW.ret ?_
    refine fin_ret2 rfl ?_
    exact ⟨rfl, hs⟩
  ·rw [show s.peek (k : Int) n = (0, 94) by unfold VS.peek; rw [hi]; simp only; rw [if_pos h0]]
   refine calls (n := 45) Tryz.func29 rfl rfl rfl ?_
   refine cQ <| cR <| wa rfl <| wa rfl <| wZ <| cQ <| cR <| wm rfl <| wm rfl ?_
   refine wE rfl (run_call en65 rfl rfl) (is_some o ok (hlw hs) hk) ?_
   rintro e w ⟨rfl, hq⟩
   refine ⟨_, rfl, ?_⟩
   replace hs := hs.callE hq
   refine wm rfl <| wx rfl rfl rfl <| wx rfl rfl rfl <| wa rfl <| wa rfl <| wZ ?_
   repeat (first | refine cQ ?_ | refine CW.block ?_)
   refine cR <| wm rfl <| wV rfl (run_bF (run_neq rfl rfl) (by decide)) <| wa rfl <| wZ ?_
   refine cC rfl (fun h => ?_) (fun h => ?_)
   ·cases h
   refine cQ <| cR <| wm rfl <| wn rfl rfl <| wV rfl (run_field (o' := 2) underlying77 rfl ty3 rfl rfl rfl) <| wV rfl (run_load1 ty3 rfl ((hat.step hs (by simp)).cell (j := 2) rfl)) <| wV rfl (run_bT (run_neq rfl rfl) (by omega)) <| wa rfl <| wZ ?_
   refine cC rfl (fun h => ?_) (fun h => ?_)
   ·refine cQ <| cR <| wa rfl <| wa rfl <| wZ ?_
    refine CW.ret ?_
    refine fin_ret2 rfl ?_
    exact ⟨rfl, hs⟩
   ·cases h
end
end Go.Gx
/-! Vp -/
namespace Go.Gx
open Go.Proofs Go.Proofs.Tryz Go.RowKit
set_option maxRecDepth 100000
/-- What Split tells. -/
def splitR (p : List UInt8) : List UInt8 × List UInt8 × Int :=
 if isCleanL p = false then ([], [], 31) else if partsL p = [] then ([], [], 32) else (joinL (partsL p).dropLast, (partsL p).getLastD [], 0)
theorem partsL_nil {s : List UInt8} (h : partsL s = []) : s = [] := by
 have := joinL_partsL s
 rw [h] at this
 exact this.symm
theorem clean_named {p : List UInt8} (h : isCleanL p = true) : Named (partsL p) ∧ (partsL p).length ≤ 32 := by
 simp only [isCleanL, Bool.and_eq_true, decide_eq_true_eq, List.all_eq_true] at h
 exact h
theorem named_clean {row : List (List UInt8)} (h : Named row) (hl : row.length ≤ 32) : isCleanL (joinL row) = true ∧ partsL (joinL row) = row := by
 have e := partsL_joinL h
 refine ⟨?_, e⟩
 simp only [isCleanL, Bool.and_eq_true, decide_eq_true_eq, List.all_eq_true, e]
 exact ⟨h, hl⟩
theorem clean_len {p : List UInt8} (h : isCleanL p = true) : p.length ≤ 2080 := by
 have hobt := clean_named h
 obtain ⟨h1, h2⟩ := hobt
 have h3 := join_len (partsL p)
 have h4 := named_join h1
 rw [joinL_partsL] at h3
 omega
theorem last_none {p : List UInt8} (h : 47 ∉ p) : Lib.lastIndexByte ⟨⟨p⟩⟩ 47 = -1 := by
 rcases Lib.lastIndexByte_spec ⟨⟨p⟩⟩ 47 with h1 | ⟨i, h1, h2, h3, h4⟩
 ·exact h1.1
 ·exfalso
  have hi : i < p.length := h1
  apply h
  have e : (ByteArray.mk ⟨p⟩).data[i]! = p[i] := by
   show (⟨p⟩ : Array UInt8)[i]! = _
   rw [getElem!_pos (⟨p⟩ : Array UInt8) i hi]
   simp
  rw [e] at h3
  have : p[i] = 47 := UInt8.toNat_inj.1 (by simpa using (show p[i].toNat = 47 by omega))
  rw [← this]
  exact List.getElem_mem hi
theorem last_some {a l : List UInt8} (h : 47 ∉ l) : Lib.lastIndexByte ⟨⟨a ++ 47 :: l⟩⟩ 47 = (a.length : Nat) := by
 have key : ∀ j, (hj : j < (a ++ 47 :: l).length) → (ByteArray.mk ⟨a ++ 47 :: l⟩).data[j]! = (a ++ 47 :: l)[j] := fun j hj => by
  show (⟨a ++ 47 :: l⟩ : Array UInt8)[j]! = _
  rw [getElem!_pos (⟨a ++ 47 :: l⟩ : Array UInt8) j hj]
  simp
 have hal : a.length < (a ++ 47 :: l).length := by simp
 have hat : (a ++ 47 :: l)[a.length] = 47 := by simp
 rcases Lib.lastIndexByte_spec ⟨⟨a ++ 47 :: l⟩⟩ 47 with h1 | ⟨i, h1, h2, h3, h4⟩
 ·exfalso
  have := h1.2 a.length hal
  rw [key _ hal, hat] at this
  exact this rfl
 ·have hi : i < (a ++ 47 :: l).length := h1
  rw [h2]
  congr 1
  rcases Nat.lt_trichotomy i a.length with hlt | he | hgt
  ·exfalso
   have := h4 a.length hlt hal
   rw [key _ hal, hat] at this
   exact this rfl
  ·exact he
  ·exfalso
   rw [key _ hi] at h3
   have h5 : (a ++ 47 :: l)[i] = 47 := UInt8.toNat_inj.1 (by simpa using (show ((a ++ 47 :: l)[i]).toNat = 47 by omega))
   have hobt : ∃ k, i = a.length + (k + 1) := ⟨i - a.length - 1, by omega⟩
   obtain ⟨k, hk⟩ := hobt
   subst hk
   have h6 : (a ++ 47 :: l)[a.length + (k + 1)]? = some 47 := by rw [List.getElem?_eq_getElem hi, h5]
   rw [List.getElem?_append_right (by omega), Nat.add_sub_cancel_left, List.getElem?_cons_succ] at h6
   exact h (List.mem_of_getElem? h6)
section
variable {P : Program} {f : Slots} {w : World} {d : Option Tmp} {ty : TypeId} {pos : String} {af : Array Edge} {x y : Operand} {ats : Array TypeId} {k : IntKind} {a b : Int}
theorem run_maxL (hx : ev f x = .int k a) (hy : ev f y = .int k b) (h : b ≤ a) : (execOp (ev f) ⟨d, .call { callee := .builtin .max, args := #[x, y], argTypes := ats }, ty, pos, af, none⟩).run P w = .ok (.value (.int k a)) w := by
 rw [run_max hx hy, if_neg (by omega)]
theorem run_maxR (hx : ev f x = .int k a) (hy : ev f y = .int k b) (h : a < b) : (execOp (ev f) ⟨d, .call { callee := .builtin .max, args := #[x, y], argTypes := ats }, ty, pos, af, none⟩).run P w = .ok (.value (.int k b)) w := by
 rw [run_max hx hy, if_pos (by omega)]
end
theorem lastB_spec {p : List UInt8} {k : Int} (w0 : World) (hp : p.length ≤ 4096) (hk : Lib.lastIndexByte ⟨⟨p⟩⟩ 47 = k) : Calls Tryz.prog 92 #[str p, .int .u8 47] w0 (Ret0 (.int .i64 k) w0) := by
 refine (Tryz.strings_LastIndexByte ⟨⟨p⟩⟩ 47 (by show p.length < _; omega) w0).mono fun e w' ⟨h1, h2⟩ => ?_
 subst h2
 exact ⟨by rw [h1, hk], Step.refl _⟩
theorem split3 {v : List UInt8 × List UInt8 × Int} {a b : List UInt8} {c : Int} {w0 w : World} (h : v = (a, b, c)) (hs : Step [] [] w0 w) : Ret0 (.tuple #[str v.1, str v.2.1, .int .i64 v.2.2]) w0 (.returned (.tuple #[str a, str b, .int .i64 c])) w := by
 subst h
 exact ⟨rfl, hs⟩
theorem splitP_spec {p : List UInt8} (w0 : World) (hg : Gl w0) (hs1 : p.length ≤ 9223372036854775807) : Calls Tryz.prog 70 #[str p] w0 (Ret0 (.tuple #[str (splitR p).1, str (splitR p).2.1, .int .i64 (splitR p).2.2]) w0) := by
 have hs : Step [] [] w0 w0 := Step.refl w0
 have hic := isClean_spec (s := p) w0 hg hs1
 by_cases hc : isCleanL p = false
 ·have e : splitR p = ([], [], 31) := by rw [splitR, if_pos hc]
  rw [hc] at hic
  refine calls (n := 23) Tryz.func70 rfl rfl rfl ?_
  refine cQ <| cR <| wa rfl <| wa rfl <| wa rfl <| wZ ?_
  repeat (first | refine cQ ?_ | refine CW.block ?_)
  refine cR <| wm rfl ?_
  refine wE rfl (run_call en93 rfl rfl) (hic) ?_
  rintro e w ⟨rfl, hq⟩
  refine ⟨_, rfl, ?_⟩
  replace hs := hs.callE hq
  refine wV rfl (run_not rfl) <| wa rfl <| wZ ?_
  repeat (first | refine cQ ?_ | refine CW.condT rfl ?_)
  refine cR <| wa rfl <| wa rfl <| wa rfl <| wZ ?_
  refine CW.ret ?_
  refine fin_ret3 rfl ?_
  exact split3 e hs
 ·have hc' : isCleanL p = true := by simpa using hc
  rw [hc'] at hic
  have hobt := clean_named hc'
  obtain ⟨hnm, hl⟩ := hobt
  have hpl := clean_len hc'
  by_cases h0 : partsL p = []
  ·have e : splitR p = ([], [], 32) := by rw [splitR, if_neg hc, if_pos h0]
   have hp0 := partsL_nil h0
   refine calls (n := 23) Tryz.func70 rfl rfl rfl ?_
   refine cQ <| cR <| wa rfl <| wa rfl <| wa rfl <| wZ ?_
   repeat (first | refine cQ ?_ | refine CW.block ?_)
   refine cR <| wm rfl ?_
   refine wE rfl (run_call en93 rfl rfl) (hic) ?_
   rintro e w ⟨rfl, hq⟩
   refine ⟨_, rfl, ?_⟩
   replace hs := hs.callE hq
   refine wV rfl (run_not rfl) <| wa rfl <| wZ ?_
   repeat (first | refine cQ ?_ | refine CW.condF rfl ?_)
   refine cR <| wm rfl <| wV rfl (run_bT (run_strEq rfl rfl) (by exact hp0)) <| wa rfl <| wZ ?_
   repeat (first | refine cQ ?_ | refine CW.condT rfl ?_)
   refine cR <| wa rfl <| wa rfl <| wa rfl <| wZ ?_
   refine CW.ret ?_
   refine fin_ret3 rfl ?_
   exact split3 e hs
  ·have hp0 : ¬ p = [] := fun e => h0 (by rw [e]; rfl)
   have hobt : ∃ n, (partsL p).getLast h0 = n := ⟨_, rfl⟩
   obtain ⟨n, hn⟩ := hobt
   have hdl : partsL p = (partsL p).dropLast ++ [n] := by rw [← hn]; exact (List.dropLast_concat_getLast h0).symm
   have hobt : ∃ r, (partsL p).dropLast = r := ⟨_, rfl⟩
   obtain ⟨r, hr⟩ := hobt
   rw [hr] at hdl
   have e : splitR p = (joinL r, n, 0) := by
    rw [splitR, if_neg hc, if_neg h0, hr]
    congr 2
    rw [hdl]; simp
   have hnn := hnm n (by rw [hdl]; simp)
   have hns := isName_slash hnn
   have hpj : p = joinL (r ++ [n]) := by rw [← hdl, joinL_partsL]
   by_cases hr0 : r = []
   ·have hpn : p = n := by rw [hpj, hr0]; exact joinL_one n
    have hla : Lib.lastIndexByte ⟨⟨p⟩⟩ 47 = -1 := last_none (by rw [hpn]; exact hns)
    refine calls (n := 23) Tryz.func70 rfl rfl rfl ?_
    refine cQ <| cR <| wa rfl <| wa rfl <| wa rfl <| wZ ?_
    repeat (first | refine cQ ?_ | refine CW.block ?_)
    refine cR <| wm rfl ?_
    refine wE rfl (run_call en93 rfl rfl) (hic) ?_
    rintro e w ⟨rfl, hq⟩
    refine ⟨_, rfl, ?_⟩
    replace hs := hs.callE hq
    refine wV rfl (run_not rfl) <| wa rfl <| wZ ?_
    repeat (first | refine cQ ?_ | refine CW.condF rfl ?_)
    refine cR <| wm rfl <| wV rfl (run_bF (run_strEq rfl rfl) (by exact hp0)) <| wa rfl <| wZ ?_
    repeat (first | refine cQ ?_ | refine cK ?_ | refine CW.condF rfl ?_)
    refine cR <| wm rfl ?_
    refine wE rfl (run_call en92 rfl rfl) (lastB_spec _ (by omega) hla) ?_
    rintro e w ⟨rfl, hq⟩
    refine ⟨_, rfl, ?_⟩
    replace hs := hs.callE hq
    refine wa rfl <| wZ <| cQ ?_
    refine CW.quiet mixedP (by kernel_rfl) hs ?_
    refine qm rfl <| qm rfl <| qV rfl (fun w hs => run_maxR rfl rfl (by decide)) <| qV rfl (fun w hs => run_sliceStr (lo := 0) (hi := 0) underlying9 rfl rfl rfl (Nat.zero_le _) (Nat.zero_le _)) <| qm rfl <| qm rfl <| qV rfl (fun w hs => run_add (c := 0) rfl rfl (by omega) (by omega)) <| qV rfl (fun w hs => run_sliceStr (lo := 0) (hi := p.length) underlying9 rfl rfl rfl (Nat.zero_le _) (Nat.le_refl _)) <| qV rfl (fun w hs => run_assign) <| qV rfl (fun w hs => run_assign) <| qV rfl (fun w hs => run_assign) ?_
    refine QL.nil (fun w hs => ?_)
    refine CW.ret ?_
    refine fin_ret3 rfl ?_
    refine split3 (a := (p.take 0).drop 0) (b := (p.take p.length).drop 0) ?_ hs
    rw [e, hr0, List.take_length, hpn]
    rfl
   ·have hpa : p = joinL r ++ 47 :: n := by
     rw [hpj, joinL_snoc, if_pos (List.length_pos_iff.2 hr0), List.append_assoc]
     rfl
    have hla : Lib.lastIndexByte ⟨⟨p⟩⟩ 47 = ((joinL r).length : Nat) := by rw [hpa]; exact last_some hns
    have hjl : (joinL r).length + 1 + n.length = p.length := by rw [hpa]; simp; omega
    refine calls (n := 23) Tryz.func70 rfl rfl rfl ?_
    refine cQ <| cR <| wa rfl <| wa rfl <| wa rfl <| wZ ?_
    repeat (first | refine cQ ?_ | refine CW.block ?_)
    refine cR <| wm rfl ?_
    refine wE rfl (run_call en93 rfl rfl) (hic) ?_
    rintro e w ⟨rfl, hq⟩
    refine ⟨_, rfl, ?_⟩
    replace hs := hs.callE hq
    refine wV rfl (run_not rfl) <| wa rfl <| wZ ?_
    repeat (first | refine cQ ?_ | refine CW.condF rfl ?_)
    refine cR <| wm rfl <| wV rfl (run_bF (run_strEq rfl rfl) (by exact hp0)) <| wa rfl <| wZ ?_
    repeat (first | refine cQ ?_ | refine cK ?_ | refine CW.condF rfl ?_)
    refine cR <| wm rfl ?_
    refine wE rfl (run_call en92 rfl rfl) (lastB_spec _ (by omega) hla) ?_
    rintro e w ⟨rfl, hq⟩
    refine ⟨_, rfl, ?_⟩
    replace hs := hs.callE hq
    refine wa rfl <| wZ <| cQ ?_
    refine CW.quiet mixedP (by kernel_rfl) hs ?_
    refine qm rfl <| qm rfl <| qV rfl (fun w hs => run_maxL rfl rfl (by omega)) <| qV rfl (fun w hs => run_sliceStr (lo := 0) (hi := (joinL r).length) underlying9 rfl rfl rfl (Nat.zero_le _) (by omega)) <| qm rfl <| qm rfl <| qV rfl (fun w hs => run_add (c := (((joinL r).length + 1 : Nat) : Int)) rfl rfl (by omega) (by omega)) <| qV rfl (fun w hs => run_sliceStr (lo := (joinL r).length + 1) (hi := p.length) underlying9 rfl rfl rfl (by omega) (Nat.le_refl _)) <| qV rfl (fun w hs => run_assign) <| qV rfl (fun w hs => run_assign) <| qV rfl (fun w hs => run_assign) ?_
    refine QL.nil (fun w hs => ?_)
    refine CW.ret ?_
    refine fin_ret3 rfl ?_
    refine split3 (a := (p.take (joinL r).length).drop 0) (b := (p.take p.length).drop ((joinL r).length + 1)) ?_ hs
    rw [e, List.take_length, hpa]
    simp
end Go.Gx
/-! Vs4 -/
namespace Go.Gx
open Go.Proofs Go.Proofs.Tryz
set_option maxRecDepth 100000
def VS.items (s : VS) : Nat := s.F.length + s.D.length - 1
def VS.place (s : VS) (h : Int) : List UInt8 × Nat × Int := match s.is h with
 | none => ([], 0, 95)
 | some (i, pl, _) => (((s.F[i]?).map (·.1)).getD [], pl, 0)
theorem mapF_len : ∀ (l : List FB) (k : Nat), (mapF l k).length = l.length
 | [], _ => rfl
 | r :: l, k => by rw [mapF, List.length_cons, mapF_len l, List.length_cons]
theorem mapDi_len : ∀ (l : List DB) (k : Nat), (mapDi l k).length = l.length
 | [], _ => rfl
 | r :: l, k => by rw [mapDi, List.length_cons, mapDi_len l, List.length_cons]
section
variable {bf mf md : Nat} {s : VS} {L Lh : List (Nat × Obj)} {vh : Value} {Fs : List FB} {Ds : List DB} {Hs : List (Option HB)} {w0 : World}
set_option maxHeartbeats 2000000 in
theorem may_spec (o : VOpen bf s L mf md vh Lh Fs Ds Hs) (ok : s.Ok) (hw : ∀ p ∈ L, w0.heap[p.1]? = some p.2) {h n : Int} (hn : -9223372036854775808 ≤ n ∧ n ≤ 9223372036854775807) : Calls Tryz.prog 34 #[.pointer (some ⟨bf, 0, none⟩), .int .i64 h, .int .i64 n] w0 (Ret0 (.int .i64 (s.may h n)) w0) := by
 have hs : Step [] [] w0 w0 := Step.refl w0
 have hlw : ∀ {w : World}, Step [] [] w0 w → ∀ p ∈ L, w.heap[p.1]? = some p.2 := fun hs p hp => hs.old (hw p hp) (by simp)
 have hfs := o.at hw
 have hqb := ok.qb
 have hby := ok.by_
 rcases o.his h with ⟨hi, _⟩ | ⟨k, hb, rfl, hk, hi⟩
 ·rw [show s.may h n = 95 by unfold VS.may; rw [hi]]
  refine calls (n := 64) Tryz.func34 rfl rfl rfl ?_
  refine cQ <| cR <| wa rfl <| wZ <| cQ <| cR <| wm rfl <| wm rfl ?_
  refine wE rfl (run_call en65 rfl rfl) (is_none o ok (hlw hs) hi) ?_
  rintro e w ⟨rfl, hq⟩
  refine ⟨_, rfl, ?_⟩
  replace hs := hs.callE hq
  refine wm rfl <| wx rfl rfl rfl <| wx rfl rfl rfl <| wa rfl <| wa rfl <| wZ ?_
  repeat (first | refine cQ ?_ | refine CW.block ?_)
  refine cR <| wm rfl <| wV rfl (run_bT (run_neq rfl rfl) (by decide)) <| wa rfl <| wZ ?_
  refine cC rfl (fun h => ?_) (fun h => ?_)
  ·refine cQ <| cR <| wm rfl <| wa rfl <| wZ ?_
   refine CW.ret ?_
   refine fin_ret1 rfl ?_
   exact ⟨rfl, hs⟩
  ·cases h
 ·have hobt := o.file hk
  obtain ⟨r, hr, hfb⟩ := hobt
  have hobt := o.bnd ok hk hr
  obtain ⟨b1, b2, b3⟩ := hobt
  have hl := o.len_ hr
  have hat := o.hat hw hk
  have hobt := o.fat hw hr
  obtain ⟨hf, hsl⟩ := hobt
  rw [← hfb] at hf
  have hobt := hsl.form
  obtain ⟨av, cv, hv⟩ := hobt
  have hmay : s.may (k : Int) n = if hb.mo = 0 then 94 else if n < 0 then 1 else if n = 0 then 0 else if 1048576 - (s.from_ hb.i hb.pl hb.mo : Int) < n then 96 else if s.qb < (s.by_ : Int) + max 0 ((s.from_ hb.i hb.pl hb.mo : Int) + n - s.len hb.i) then 96 else 0 := by unfold VS.may; rw [hi]
  have hfrom := fun {w} hw => from_spec (w0 := w) o hw hk hr hfb
  have hfe : s.from_ hb.i hb.pl hb.mo = if hb.mo = 3 then r.x.length else hb.pl := by unfold VS.from_; rw [hl]
  rw [← hfe] at hfrom
  have hfb2 : s.from_ hb.i hb.pl hb.mo ≤ 1048576 := by rw [hfe]; split <;> omega
  have hobt : ∃ fr, s.from_ hb.i hb.pl hb.mo = fr := ⟨_, rfl⟩
  obtain ⟨fr, hfr⟩ := hobt
  rw [hfr] at hfrom hfb2 hmay
  rw [hl] at hmay
  by_cases h0 : hb.mo = 0
  ·rw [show s.may (k : Int) n = 94 by rw [hmay, if_pos h0]]
   refine calls (n := 64) Tryz.func34 rfl rfl rfl ?_
   refine cQ <| cR <| wa rfl <| wZ <| cQ <| cR <| wm rfl <| wm rfl ?_
   refine wE rfl (run_call en65 rfl rfl) (is_some o ok (hlw hs) hk) ?_
   rintro e w ⟨rfl, hq⟩
   refine ⟨_, rfl, ?_⟩
   replace hs := hs.callE hq
   refine wm rfl <| wx rfl rfl rfl <| wx rfl rfl rfl <| wa rfl <| wa rfl <| wZ ?_
   repeat (first | refine cQ ?_ | refine CW.block ?_)
   refine cR <| wm rfl <| wV rfl (run_bF (run_neq rfl rfl) (by decide)) <| wa rfl <| wZ ?_
   refine cC rfl (fun h => ?_) (fun h => ?_)
   ·cases h
   refine cQ <| cR <| wm rfl <| wn rfl rfl <| wV rfl (run_field (o' := 2) underlying77 rfl ty3 rfl rfl rfl) <| wV rfl (run_load1 ty3 rfl ((hat.step hs (by simp)).cell (j := 2) rfl)) <| wV rfl (run_bT (run_eql rfl rfl) (by omega)) <| wa rfl <| wZ ?_
   refine cC rfl (fun h => ?_) (fun h => ?_)
   ·refine cQ <| cR <| wa rfl <| wZ ?_
    refine CW.ret ?_
    refine fin_ret1 rfl ?_
    exact ⟨rfl, hs⟩
   ·cases h
  rw [if_neg h0] at hmay
  by_cases hneg : n < 0
  ·rw [show s.may (k : Int) n = 1 by rw [hmay, if_pos hneg]]
   refine calls (n := 64) Tryz.func34 rfl rfl rfl ?_
   refine cQ <| cR <| wa rfl <| wZ <| cQ <| cR <| wm rfl <| wm rfl ?_
   refine wE rfl (run_call en65 rfl rfl) (is_some o ok (hlw hs) hk) ?_
   rintro e w ⟨rfl, hq⟩
   refine ⟨_, rfl, ?_⟩
   replace hs := hs.callE hq
   refine wm rfl <| wx rfl rfl rfl <| wx rfl rfl rfl <| wa rfl <| wa rfl <| wZ ?_
   repeat (first | refine cQ ?_ | refine CW.block ?_)
   refine cR <| wm rfl <| wV rfl (run_bF (run_neq rfl rfl) (by decide)) <| wa rfl <| wZ ?_
   refine cC rfl (fun h => ?_) (fun h => ?_)
   ·cases h
   refine cQ <| cR <| wm rfl <| wn rfl rfl <| wV rfl (run_field (o' := 2) underlying77 rfl ty3 rfl rfl rfl) <| wV rfl (run_load1 ty3 rfl ((hat.step hs (by simp)).cell (j := 2) rfl)) <| wV rfl (run_bF (run_eql rfl rfl) (by omega)) <| wa rfl <| wZ ?_
   refine cC rfl (fun h => ?_) (fun h => ?_)
   ·cases h
   refine cQ <| cR <| wm rfl <| wV rfl (run_bT (run_lss rfl rfl) (by omega)) <| wa rfl <| wZ ?_
   refine cC rfl (fun h => ?_) (fun h => ?_)
   ·refine cQ <| cR <| wa rfl <| wZ ?_
    refine CW.ret ?_
    refine fin_ret1 rfl ?_
    exact ⟨rfl, hs⟩
   ·cases h
  rw [if_neg hneg] at hmay
  by_cases hz : n = 0
  ·rw [show s.may (k : Int) n = 0 by rw [hmay, if_pos hz]]
   refine calls (n := 64) Tryz.func34 rfl rfl rfl ?_
   refine cQ <| cR <| wa rfl <| wZ <| cQ <| cR <| wm rfl <| wm rfl ?_
   refine wE rfl (run_call en65 rfl rfl) (is_some o ok (hlw hs) hk) ?_
   rintro e w ⟨rfl, hq⟩
   refine ⟨_, rfl, ?_⟩
   replace hs := hs.callE hq
   refine wm rfl <| wx rfl rfl rfl <| wx rfl rfl rfl <| wa rfl <| wa rfl <| wZ ?_
   repeat (first | refine cQ ?_ | refine CW.block ?_)
   refine cR <| wm rfl <| wV rfl (run_bF (run_neq rfl rfl) (by decide)) <| wa rfl <| wZ ?_
   refine cC rfl (fun h => ?_) (fun h => ?_)
   ·cases h
   refine cQ <| cR <| wm rfl <| wn rfl rfl <| wV rfl (run_field (o' := 2) underlying77 rfl ty3 rfl rfl rfl) <| wV rfl (run_load1 ty3 rfl ((hat.step hs (by simp)).cell (j := 2) rfl)) <| wV rfl (run_bF (run_eql rfl rfl) (by omega)) <| wa rfl <| wZ ?_
   refine cC rfl (fun h => ?_) (fun h => ?_)
   ·cases h
   refine cQ <| cR <| wm rfl <| wV rfl (run_bF (run_lss rfl rfl) (by omega)) <| wa rfl <| wZ ?_
   refine cC rfl (fun h => ?_) (fun h => ?_)
   ·cases h
   refine cQ <| cR <| wm rfl <| wV rfl (run_bT (run_eql rfl rfl) (by omega)) <| wa rfl <| wZ ?_
   refine cC rfl (fun h => ?_) (fun h => ?_)
   ·refine cQ <| cR <| wa rfl <| wZ ?_
    refine CW.ret ?_
    refine fin_ret1 rfl ?_
    exact ⟨rfl, hs⟩
   ·cases h
  rw [if_neg hz] at hmay
  by_cases hbig : 1048576 - (fr : Int) < n
  ·rw [show s.may (k : Int) n = 96 by rw [hmay, if_pos hbig]]
   refine calls (n := 64) Tryz.func34 rfl rfl rfl ?_
   refine cQ <| cR <| wa rfl <| wZ <| cQ <| cR <| wm rfl <| wm rfl ?_
   refine wE rfl (run_call en65 rfl rfl) (is_some o ok (hlw hs) hk) ?_
   rintro e w ⟨rfl, hq⟩
   refine ⟨_, rfl, ?_⟩
   replace hs := hs.callE hq
   refine wm rfl <| wx rfl rfl rfl <| wx rfl rfl rfl <| wa rfl <| wa rfl <| wZ ?_
   repeat (first | refine cQ ?_ | refine CW.block ?_)
   refine cR <| wm rfl <| wV rfl (run_bF (run_neq rfl rfl) (by decide)) <| wa rfl <| wZ ?_
   refine cC rfl (fun h => ?_) (fun h => ?_)
   ·cases h
   refine cQ <| cR <| wm rfl <| wn rfl rfl <| wV rfl (run_field (o' := 2) underlying77 rfl ty3 rfl rfl rfl) <| wV rfl (run_load1 ty3 rfl ((hat.step hs (by simp)).cell (j := 2) rfl)) <| wV rfl (run_bF (run_eql rfl rfl) (by omega)) <| wa rfl <| wZ ?_
   refine cC rfl (fun h => ?_) (fun h => ?_)
   ·cases h
   refine cQ <| cR <| wm rfl <| wV rfl (run_bF (run_lss rfl rfl) (by omega)) <| wa rfl <| wZ ?_
   refine cC rfl (fun h => ?_) (fun h => ?_)
   ·cases h
   refine cQ <| cR <| wm rfl <| wV rfl (run_bF (run_eql rfl rfl) (by omega)) <| wa rfl <| wZ ?_
   refine cC rfl (fun h => ?_) (fun h => ?_)
   ·cases h
   refine cQ <| cR <| wm rfl <| wm rfl ?_
   refine wE rfl (run_call en49 rfl rfl) (hfrom (hlw hs)) ?_
   rintro e w ⟨rfl, hq⟩
   refine ⟨_, rfl, ?_⟩
   replace hs := hs.callE hq
   refine wV rfl (run_sub (c := (1048576 - (fr : Int))) rfl rfl (by omega) (by omega)) <| wV rfl (run_bT (run_gtr rfl rfl) (by omega)) <| wa rfl <| wZ ?_
   refine cC rfl (fun h => ?_) (fun h => ?_)
   ·refine cQ <| cR <| wa rfl <| wZ ?_
    refine CW.ret ?_
    refine fin_ret1 rfl ?_
    exact ⟨rfl, hs⟩
   ·cases h
  rw [if_neg hbig] at hmay
  by_cases hq : s.qb < (s.by_ : Int) + max 0 ((fr : Int) + n - (r.x.length : Int))
  ·rw [show s.may (k : Int) n = 96 by rw [hmay, if_pos hq]]
   refine calls (n := 64) Tryz.func34 rfl rfl rfl ?_
   refine cQ <| cR <| wa rfl <| wZ <| cQ <| cR <| wm rfl <| wm rfl ?_
   refine wE rfl (run_call en65 rfl rfl) (is_some o ok (hlw hs) hk) ?_
   rintro e w ⟨rfl, hq⟩
   refine ⟨_, rfl, ?_⟩
   replace hs := hs.callE hq
   refine wm rfl <| wx rfl rfl rfl <| wx rfl rfl rfl <| wa rfl <| wa rfl <| wZ ?_
   repeat (first | refine cQ ?_ | refine CW.block ?_)
   refine cR <| wm rfl <| wV rfl (run_bF (run_neq rfl rfl) (by decide)) <| wa rfl <| wZ ?_
   refine cC rfl (fun h => ?_) (fun h => ?_)
   ·cases h
   refine cQ <| cR <| wm rfl <| wn rfl rfl <| wV rfl (run_field (o' := 2) underlying77 rfl ty3 rfl rfl rfl) <| wV rfl (run_load1 ty3 rfl ((hat.step hs (by simp)).cell (j := 2) rfl)) <| wV rfl (run_bF (run_eql rfl rfl) (by omega)) <| wa rfl <| wZ ?_
   refine cC rfl (fun h => ?_) (fun h => ?_)
   ·cases h
   refine cQ <| cR <| wm rfl <| wV rfl (run_bF (run_lss rfl rfl) (by omega)) <| wa rfl <| wZ ?_
   refine cC rfl (fun h => ?_) (fun h => ?_)
   ·cases h
   refine cQ <| cR <| wm rfl <| wV rfl (run_bF (run_eql rfl rfl) (by omega)) <| wa rfl <| wZ ?_
   refine cC rfl (fun h => ?_) (fun h => ?_)
   ·cases h
   refine cQ <| cR <| wm rfl <| wm rfl ?_
   refine wE rfl (run_call en49 rfl rfl) (hfrom (hlw hs)) ?_
   rintro e w ⟨rfl, hq⟩
   refine ⟨_, rfl, ?_⟩
   replace hs := hs.callE hq
   refine wV rfl (run_sub (c := (1048576 - (fr : Int))) rfl rfl (by omega) (by omega)) <| wV rfl (run_bF (run_gtr rfl rfl) (by omega)) <| wa rfl <| wZ ?_
   refine cC rfl (fun h => ?_) (fun h => ?_)
   ·cases h
   repeat (first | refine cQ ?_ | refine cK ?_)
   refine CW.quiet mixedP (by kernel_rfl) hs ?_
   refine qm rfl ?_
   refine QL.enter rfl (fun w => run_call en49 rfl rfl) (fun w hs => hfrom (hlw hs)) ?_
   refine qm rfl <| qV rfl (fun w hs => run_add (c := ((fr : Int) + n)) rfl rfl (by omega) (by omega)) <| qm rfl <| qn rfl rfl <| qV rfl (fun w hs => run_field (o' := 0) underlying77 rfl ty62 rfl rfl rfl) <| qV rfl (fun w hs => run_load1 ty62 rfl ((hat.step hs (by simp)).cell (j := 0) rfl)) <| qn rfl rfl <| qV rfl (fun w hs => run_field (o' := 1) underlying67 rfl ty38 rfl rfl rfl) ?_
   refine qV rfl (fun w hs => run_load1 ty38 rfl ((hf.step hs (by simp)).cell (j := 1) (v := .slice av r.x.length cv) (by rw [← hv]; rfl))) ?_
   refine qV rfl (fun w hs => run_lenSl underlying38 rfl) <| qV rfl (fun w hs => run_sub (c := ((fr : Int) + n - (r.x.length : Int))) rfl rfl (by omega) (by omega)) <| qV rfl (fun w hs => run_maxE rfl rfl rfl) <| qV rfl (fun w hs => run_assign) ?_
   refine QL.nil (fun w hs => ?_)
   refine cQ ?_
   refine CW.quiet mixedP (by kernel_rfl) hs ?_
   refine qm rfl <| qn rfl rfl <| qV rfl (fun w hs => run_field (o' := 6) underlying61 rfl ty3 rfl rfl rfl) <| qV rfl (fun w hs => run_load1 ty3 rfl ((hfs.step hs (by simp)).cell (j := 6) rfl)) <| qm rfl <| qV rfl (fun w hs => run_add (c := ((s.by_ : Int) + max 0 ((fr : Int) + n - (r.x.length : Int)))) rfl rfl (by omega) (by omega)) <| qm rfl <| qn rfl rfl <| qV rfl (fun w hs => run_field (o' := 3) underlying61 rfl ty24 rfl rfl rfl) <| qV rfl (fun w hs => run_field (o' := 0) underlying24 rfl ty3 rfl rfl rfl) <| qV rfl (fun w hs => run_load1 ty3 rfl ((hfs.step hs (by simp)).cell (j := 3) rfl)) <| qV rfl (fun w hs => run_bT (run_gtr rfl rfl) (by omega)) ?_
   refine QL.nil (fun w hs => ?_)
   refine cC rfl (fun h => ?_) (fun h => ?_)
   ·refine cQ <| cR <| wa rfl <| wZ ?_
    refine CW.ret ?_
    refine fin_ret1 rfl ?_
    exact ⟨rfl, hs⟩
   ·cases h
  ·rw [show s.may (k : Int) n = 0 by rw [hmay, if_neg hq]]
   refine calls (n := 64) Tryz.func34 rfl rfl rfl ?_
   refine cQ <| cR <| wa rfl <| wZ <| cQ <| cR <| wm rfl <| wm rfl ?_
   refine wE rfl (run_call en65 rfl rfl) (is_some o ok (hlw hs) hk) ?_
   rintro e w ⟨rfl, hq⟩
   refine ⟨_, rfl, ?_⟩
   replace hs := hs.callE hq
   refine wm rfl <| wx rfl rfl rfl <| wx rfl rfl rfl <| wa rfl <| wa rfl <| wZ ?_
   repeat (first | refine cQ ?_ | refine CW.block ?_)
   refine cR <| wm rfl <| wV rfl (run_bF (run_neq rfl rfl) (by decide)) <| wa rfl <| wZ ?_
   refine cC rfl (fun h => ?_) (fun h => ?_)
   ·cases h
   refine cQ <| cR <| wm rfl <| wn rfl rfl <| wV rfl (run_field (o' := 2) underlying77 rfl ty3 rfl rfl rfl) <| wV rfl (run_load1 ty3 rfl ((hat.step hs (by simp)).cell (j := 2) rfl)) <| wV rfl (run_bF (run_eql rfl rfl) (by omega)) <| wa rfl <| wZ ?_
   refine cC rfl (fun h => ?_) (fun h => ?_)
   ·cases h
   refine cQ <| cR <| wm rfl <| wV rfl (run_bF (run_lss rfl rfl) (by omega)) <| wa rfl <| wZ ?_
   refine cC rfl (fun h => ?_) (fun h => ?_)
   ·cases h
   refine cQ <| cR <| wm rfl <| wV rfl (run_bF (run_eql rfl rfl) (by omega)) <| wa rfl <| wZ ?_
   refine cC rfl (fun h => ?_) (fun h => ?_)
   ·cases h
   refine cQ <| cR <| wm rfl <| wm rfl ?_
   refine wE rfl (run_call en49 rfl rfl) (hfrom (hlw hs)) ?_
   rintro e w ⟨rfl, hq⟩
   refine ⟨_, rfl, ?_⟩
   replace hs := hs.callE hq
   refine wV rfl (run_sub (c := (1048576 - (fr : Int))) rfl rfl (by omega) (by omega)) <| wV rfl (run_bF (run_gtr rfl rfl) (by omega)) <| wa rfl <| wZ ?_
   refine cC rfl (fun h => ?_) (fun h => ?_)
   ·cases h
   repeat (first | refine cQ ?_ | refine cK ?_)
   refine CW.quiet mixedP (by kernel_rfl) hs ?_
   refine qm rfl ?_
   refine QL.enter rfl (fun w => run_call en49 rfl rfl) (fun w hs => hfrom (hlw hs)) ?_
   refine qm rfl <| qV rfl (fun w hs => run_add (c := ((fr : Int) + n)) rfl rfl (by omega) (by omega)) <| qm rfl <| qn rfl rfl <| qV rfl (fun w hs => run_field (o' := 0) underlying77 rfl ty62 rfl rfl rfl) <| qV rfl (fun w hs => run_load1 ty62 rfl ((hat.step hs (by simp)).cell (j := 0) rfl)) <| qn rfl rfl <| qV rfl (fun w hs => run_field (o' := 1) underlying67 rfl ty38 rfl rfl rfl) ?_
   refine qV rfl (fun w hs => run_load1 ty38 rfl ((hf.step hs (by simp)).cell (j := 1) (v := .slice av r.x.length cv) (by rw [← hv]; rfl))) ?_
   refine qV rfl (fun w hs => run_lenSl underlying38 rfl) <| qV rfl (fun w hs => run_sub (c := ((fr : Int) + n - (r.x.length : Int))) rfl rfl (by omega) (by omega)) <| qV rfl (fun w hs => run_maxE rfl rfl rfl) <| qV rfl (fun w hs => run_assign) ?_
   refine QL.nil (fun w hs => ?_)
   refine cQ ?_
   refine CW.quiet mixedP (by kernel_rfl) hs ?_
   refine qm rfl <| qn rfl rfl <| qV rfl (fun w hs => run_field (o' := 6) underlying61 rfl ty3 rfl rfl rfl) <| qV rfl (fun w hs => run_load1 ty3 rfl ((hfs.step hs (by simp)).cell (j := 6) rfl)) <| qm rfl <| qV rfl (fun w hs => run_add (c := ((s.by_ : Int) + max 0 ((fr : Int) + n - (r.x.length : Int)))) rfl rfl (by omega) (by omega)) <| qm rfl <| qn rfl rfl <| qV rfl (fun w hs => run_field (o' := 3) underlying61 rfl ty24 rfl rfl rfl) <| qV rfl (fun w hs => run_field (o' := 0) underlying24 rfl ty3 rfl rfl rfl) <| qV rfl (fun w hs => run_load1 ty3 rfl ((hfs.step hs (by simp)).cell (j := 3) rfl)) <| qV rfl (fun w hs => run_bF (run_gtr rfl rfl) (by omega)) ?_
   refine QL.nil (fun w hs => ?_)
   refine cC rfl (fun h => ?_) (fun h => ?_)
   ·cases h
   repeat (first | refine cQ ?_ | refine cK ?_)
   refine cR <| wa rfl <| wZ ?_
   refine CW.ret ?_
   refine fin_ret1 rfl ?_
   exact ⟨rfl, hs⟩
theorem place_spec (o : VOpen bf s L mf md vh Lh Fs Ds Hs) (ok : s.Ok) (hw : ∀ p ∈ L, w0.heap[p.1]? = some p.2) {h : Int} : Calls Tryz.prog 41 #[.pointer (some ⟨bf, 0, none⟩), .int .i64 h] w0 (Ret0 (.tuple #[str (s.place h).1, .int .i64 ((s.place h).2.1 : Nat), .int .i64 (s.place h).2.2]) w0) := by
 have hs : Step [] [] w0 w0 := Step.refl w0
 have hlw : ∀ {w : World}, Step [] [] w0 w → ∀ p ∈ L, w.heap[p.1]? = some p.2 := fun hs p hp => hs.old (hw p hp) (by simp)
 rcases o.his h with ⟨hi, _⟩ | ⟨k, hb, rfl, hk, hi⟩
 ·rw [show s.place h = ([], 0, 95) by unfold VS.place; rw [hi]]
  refine calls (n := 30) Tryz.func41 rfl rfl rfl ?_
  refine cQ <| cR <| wa rfl <| wa rfl <| wa rfl <| wZ <| cQ <| cR <| wm rfl <| wm rfl ?_
  refine wE rfl (run_call en65 rfl rfl) (is_none o ok (hlw hs) hi) ?_
  rintro e w ⟨rfl, hq⟩
  refine ⟨_, rfl, ?_⟩
  replace hs := hs.callE hq
  refine wm rfl <| wx rfl rfl rfl <| wx rfl rfl rfl <| wa rfl <| wa rfl <| wZ <| cQ <| cQ <| cR <| wm rfl <| wV rfl (run_bT (run_neq rfl rfl) (by decide)) <| wZ ?_
  refine cC rfl (fun h => ?_) (fun h => ?_)
  ·refine cQ <| cR <| wm rfl <| wa rfl <| wa rfl <| wa rfl <| wZ ?_
   refine CW.ret ?_
   refine fin_ret3 rfl ?_
   exact ⟨rfl, hs⟩
  ·cases h
 ·have hobt := o.file hk
  obtain ⟨r, hr, hfb⟩ := hobt
  have hat := o.hat hw hk
  have hobt := o.fat hw hr
  obtain ⟨hf, hsl⟩ := hobt
  rw [← hfb] at hf
  rw [show s.place (k : Int) = (r.p, hb.pl, 0) by
   unfold VS.place
   rw [hi]
   simp only
   rw [← o.F, List.getElem?_map, hr]
   rfl]
  refine calls (n := 30) Tryz.func41 rfl rfl rfl ?_
  refine cQ <| cR <| wa rfl <| wa rfl <| wa rfl <| wZ <| cQ <| cR <| wm rfl <| wm rfl ?_
  refine wE rfl (run_call en65 rfl rfl) (is_some o ok (hlw hs) hk) ?_
  rintro e w ⟨rfl, hq⟩
  refine ⟨_, rfl, ?_⟩
  replace hs := hs.callE hq
  refine wm rfl <| wx rfl rfl rfl <| wx rfl rfl rfl <| wa rfl <| wa rfl <| wZ <| cQ <| cQ <| cR <| wm rfl <| wV rfl (run_bF (run_neq rfl rfl) (by decide)) <| wZ ?_
  refine cC rfl (fun h => ?_) (fun h => ?_)
  ·cases h
  repeat (first | refine cQ ?_ | refine cK ?_)
  refine CW.quiet mixedP (by kernel_rfl) hs ?_
  refine qm rfl <| qn rfl rfl <| qV rfl (fun w hs => run_field (o' := 0) underlying77 rfl ty62 rfl rfl rfl) <| qV rfl (fun w hs => run_load1 ty62 rfl ((hat.step hs (by simp)).cell (j := 0) rfl)) <| qn rfl rfl <| qV rfl (fun w hs => run_field (o' := 0) underlying67 rfl ty65 rfl rfl rfl) <| qV rfl (fun w hs => run_field (o' := 0) underlying65 rfl ty9 rfl rfl rfl) <| qV rfl (fun w hs => run_load1 ty9 rfl ((hf.step hs (by simp)).cell (j := 0) rfl)) <| qm rfl <| qn rfl rfl <| qV rfl (fun w hs => run_field (o' := 1) underlying77 rfl ty3 rfl rfl rfl) <| qV rfl (fun w hs => run_load1 ty3 rfl ((hat.step hs (by simp)).cell (j := 1) rfl)) <| qV rfl (fun w hs => run_assign) <| qV rfl (fun w hs => run_assign) ?_
  refine qV rfl (fun w hs => run_assign) ?_
  refine QL.nil (fun w hs => ?_)
  refine CW.ret ?_
  refine fin_ret3 rfl ?_
  exact ⟨rfl, hs⟩
theorem items_spec (o : VOpen bf s L mf md vh Lh Fs Ds Hs) (ok : s.Ok) (hD : 0 < s.D.length) (hw : ∀ p ∈ L, w0.heap[p.1]? = some p.2) : Calls Tryz.prog 24 #[.pointer (some ⟨bf, 0, none⟩)] w0 (Ret0 (.int .i64 (s.items : Nat)) w0) := by
 have hs : Step [] [] w0 w0 := Step.refl w0
 have hlw : ∀ {w : World}, Step [] [] w0 w → ∀ p ∈ L, w.heap[p.1]? = some p.2 := fun hs p hp => hs.old (hw p hp) (by simp)
 have hfs := o.at hw
 have e1 : Fs.length = s.F.length := by rw [← o.F, List.length_map]
 have e2 : Ds.length = s.D.length := by rw [← o.D, List.length_map]
 have h1 := ok.f
 have h2 := ok.d
 have hl1 := mapF_len Fs 0
 have hl2 := mapDi_len Ds 0
 have hi : ((s.items : Nat) : Int) = (s.F.length : Int) + s.D.length - 1 := by unfold VS.items; omega
 refine calls (n := 15) Tryz.func24 rfl rfl rfl ?_
 refine cQ <| cR <| wa rfl <| wZ <| cQ ?_
 refine CW.quiet mixedP (by kernel_rfl) hs ?_
 refine qm rfl <| qn rfl rfl <| qV rfl (fun w hs => run_field (o' := 0) underlying61 rfl ty57 rfl rfl rfl) <| qV rfl (fun w hs => run_load1 ty57 rfl ((hfs.step hs (by simp)).cell (j := 0) rfl)) <| qV rfl (fun w hs => run_lenS underlying57 rfl (o.mf_ (hlw hs))) <| qm rfl <| qn rfl rfl <| qV rfl (fun w hs => run_field (o' := 1) underlying61 rfl ty58 rfl rfl rfl) <| qV rfl (fun w hs => run_load1 ty58 rfl ((hfs.step hs (by simp)).cell (j := 1) rfl)) <| qV rfl (fun w hs => run_lenS underlying58 rfl (o.md_ (hlw hs))) <| qV rfl (fun w hs => run_add (c := ((s.F.length : Int) + s.D.length)) rfl rfl (by omega) (by omega)) <| qV rfl (fun w hs => run_sub (c := ((s.items : Nat) : Int)) rfl rfl (by omega) (by omega)) <| qV rfl (fun w hs => run_assign) ?_
 refine QL.nil (fun w hs => ?_)
 refine CW.ret ?_
 refine fin_ret1 rfl ?_
 exact ⟨rfl, hs⟩
def quoC (a b c : Int) : List Value := [.int .i64 a, .int .i64 b, .int .i64 c]
theorem bld_quo (a b c : Int) (w : World) : (Instr.build 24 #[(0, .int .i64 a), (1, .int .i64 b), (2, .int .i64 c)]).run Tryz.prog w = .ok (.agg (quoC a b c).toArray) w := by kernel_rfl
theorem used_spec (o : VOpen bf s L mf md vh Lh Fs Ds Hs) (ok : s.Ok) (hD : 0 < s.D.length) (hw : ∀ p ∈ L, w0.heap[p.1]? = some p.2) : Calls Tryz.prog 9 #[.pointer (some ⟨bf, 0, none⟩)] w0 (Ret0 (.agg (quoC (s.by_ : Nat) (s.items : Nat) (s.op : Nat)).toArray) w0) := by
 have hs : Step [] [] w0 w0 := Step.refl w0
 have hlw : ∀ {w : World}, Step [] [] w0 w → ∀ p ∈ L, w.heap[p.1]? = some p.2 := fun hs p hp => hs.old (hw p hp) (by simp)
 have hfs := o.at hw
 refine calls (n := 14) Tryz.func9 rfl rfl rfl ?_
 refine cQ <| cR ?_
 refine WL.alloc ty24 rfl hs (fun b2 w hs => ?_)
 refine wZ <| cQ ?_
 refine CW.quietT (l1 := [_, _, _, _, _, _, _, _, _, _, _]) (l2 := [_]) 11 rfl mixedP rfl (by kernel_rfl) hs ?_
 refine qm rfl <| qn rfl rfl <| qV rfl (fun w hs => run_field (o' := 6) underlying61 rfl ty3 rfl rfl rfl) <| qV rfl (fun w hs => run_load1 ty3 rfl ((hfs.step hs.clear (by simp)).cell (j := 6) rfl)) <| qm rfl ?_
 refine QL.enter rfl (fun w => run_call en24 rfl rfl) (fun w hs => items_spec o ok hD (hlw hs.clear)) ?_
 refine qm rfl <| qn rfl rfl <| qV rfl (fun w hs => run_field (o' := 7) underlying61 rfl ty3 rfl rfl rfl) <| qV rfl (fun w hs => run_load1 ty3 rfl ((hfs.step hs.clear (by simp)).cell (j := 7) rfl)) <| qV rfl (fun w hs => run_build rfl ((bld_quo _ _ _ _))) ?_
 refine QL.nil (fun w hs => ?_)
 refine WL.storeAll ty24 rfl rfl ((rfl)) (Cells1.of_all rfl) hs (by first | rfl | assumption) (fun w hs => ?_)
 refine wZ ?_
 refine CW.ret ?_
 refine fin_cell1 rfl rfl (run_loadVarN ty24 (by first | rfl | assumption | (simp; done)) hs.a0) ?_
 exact ⟨rfl, hs.clear⟩
end
end Go.Gx
/-! Vs5 -/
namespace Go.Gx
open Go.Proofs Go.Proofs.Tryz
set_option maxRecDepth 100000
def VS.close (s : VS) (h : Int) : Int × VS := match s.is h with
 | none => (95, s)
 | some _ => (0, { s with H := s.H.set h.toNat none, op := s.op - 1 })
section
variable {α : Type} {f : α → List (Nat × Obj)} {l : List α} {i : Nat} {a a' : α} {A : List (Nat × Obj)} {S : List Nat} {w0 w : World}
theorem Step.openE (h : l[i]? = some a) (hs : Step S (A ++ l.flatMap f) w0 w) : Step S (f a ++ (A ++ (l.eraseIdx i).flatMap f)) w0 w := hs.perm (((flat_open h).append_left A).trans (List.perm_append_comm_assoc _ _ _))
theorem Step.shutE (h : i < l.length) (hs : Step S (f a' ++ (A ++ (l.eraseIdx i).flatMap f)) w0 w) : Step S (A ++ (l.set i a').flatMap f) w0 w := hs.perm ((List.perm_append_comm_assoc _ _ _).trans ((flat_shut h).append_left A))
end
section
variable {bf : Nat} {s : VS} {L : List (Nat × Obj)} {w0 : World}
theorem close_spec (hR : VRep bf s L) (ok : s.Ok) {h : Int} (hop : (s.is h).isSome → 1 ≤ s.op) (hw : Step (L.map (·.1)) L w0 w0) : Calls Tryz.prog 39 #[.pointer (some ⟨bf, 0, none⟩), .int .i64 h] w0 fun e w' => ∃ L', e = .returned (.int .i64 (s.close h).1) ∧ VRep bf (s.close h).2 L' ∧ Step (L.map (·.1)) L' w0 w' := by
 obtain ⟨mf, md, vh, Lh, Fs, Ds, Hs, o⟩ := hR
 have hlw : ∀ {w : World}, Step [] [] w0 w → ∀ p ∈ L, w.heap[p.1]? = some p.2 := fun hs p hp => hs.old (hw.has p hp) (by simp)
 have hsop := ok.op
 rcases o.his h with ⟨hi, _⟩ | ⟨k, hb, rfl, hk, hi⟩
 ·have hs : Step (L.map (·.1)) L w0 w0 := hw
  rw [show s.close h = (95, s) by unfold VS.close; rw [hi]]
  refine calls (n := 29) Tryz.func39 rfl rfl rfl ?_
  refine cQ <| cR <| wa rfl <| wZ <| cQ <| cQ <| cR <| wm rfl <| wm rfl ?_
  refine wE rfl (run_call en65 rfl rfl) (is_none o ok hs.has hi) ?_
  rintro e w ⟨rfl, hq⟩
  refine ⟨_, rfl, ?_⟩
  replace hs := hs.callE hq
  refine wm rfl <| wx rfl rfl rfl <| wx rfl rfl rfl <| wa rfl <| wa rfl <| wZ <| cQ <| cR <| wm rfl <| wV rfl (run_bT (run_neq rfl rfl) (by decide)) <| wZ ?_
  refine cC rfl (fun h => ?_) (fun h => ?_)
  ·refine cQ <| cR <| wm rfl <| wa rfl <| wZ ?_
   refine CW.ret ?_
   refine fin_ret1 rfl ?_
   exact ⟨L, rfl, ⟨mf, md, vh, Lh, Fs, Ds, Hs, o⟩, hs⟩
  ·cases h
 ·have hop := hop (by rw [hi]; rfl)
  have hlt := (List.getElem?_eq_some_iff.1 hk).1
  have hobt := o.vh.some1 (by omega)
  obtain ⟨bl, cap, more, hv, hL, hc⟩ := hobt
  have hml : (Hs.map HB.val ++ more).length = Hs.length + more.length := by simp
  have hOL := o.L
  rw [hL, List.singleton_append] at hOL
  have hs : Step (L.map (·.1)) ((bf, blk 61 (fsC mf md vh s)) :: (mf, mapS (mapF Fs 0) Fs.length) :: (md, mapS (mapDi Ds 0) Ds.length) :: (bl, blk 75 (Hs.map HB.val ++ more)) :: (Fs.flatMap FB.own ++ (Ds.flatMap DB.own ++ Hs.flatMap HB.own))) w0 w0 := by rw [← hOL]; exact hw
  rw [show s.close (k : Int) = (0, { s with H := s.H.set k none, op := s.op - 1 }) by unfold VS.close; rw [hi, Int.toNat_natCast]]
  have hobt : ∃ S, L.map (·.1) = S := ⟨_, rfl⟩
  obtain ⟨S, hS⟩ := hobt
  rw [hS] at hs ⊢
  have hsub : ((s.op : Nat) : Int) - 1 = ((s.op - 1 : Nat) : Int) := by omega
  have hof : ∀ {w : World}, Step S ((bf, blk 61 (fsC mf md vh s)) :: (mf, mapS (mapF Fs 0) Fs.length) :: (md, mapS (mapDi Ds 0) Ds.length) :: (bl, blk 75 (Hs.map HB.val ++ more)) :: (Fs.flatMap FB.own ++ (Ds.flatMap DB.own ++ Hs.flatMap HB.own))) w0 w → ∀ p ∈ L, w.heap[p.1]? = some p.2 := fun hs p hp => hs.has p (by rw [hOL] at hp; exact hp)
  rw [hv] at hs hof
  have o2 := o
  rw [hv] at o2
  refine calls (n := 29) Tryz.func39 rfl rfl rfl ?_
  refine cQ <| cR <| wa rfl <| wZ <| cQ <| cQ <| cR <| wm rfl <| wm rfl ?_
  refine wE rfl (run_call en65 rfl rfl) (is_some o ok (hof hs) hk) ?_
  rintro e w ⟨rfl, hq⟩
  refine ⟨_, rfl, ?_⟩
  replace hs := hs.callE hq
  refine wm rfl <| wx rfl rfl rfl <| wx rfl rfl rfl <| wa rfl <| wa rfl <| wZ <| cQ <| cR <| wm rfl <| wV rfl (run_bF (run_neq rfl rfl) (by decide)) <| wZ ?_
  refine cC rfl (fun h => ?_) (fun h => ?_)
  ·cases h
  repeat (first | refine cQ ?_ | refine cK ?_)
  refine cR <| wm rfl <| wn rfl rfl <| wV rfl (run_field (o' := 2) underlying61 rfl ty59 rfl rfl rfl) <| wV rfl (run_load1 ty59 rfl (hs.c0 (v := .slice (some ⟨bl, 0, none⟩) Hs.length cap) rfl)) <| wm rfl <| wV rfl (run_ixSlN underlying59 ty75 rfl rfl (by omega)) ?_
  refine WL.store1_3 ty75 rfl rfl (rfl) hs (by first | (simp; done) | omega | (simp only [List.length_append, List.length_replicate, List.length_cons, List.length_nil, List.length_set]; omega) | (simp [Ent.cells, u8s]; done) | exact Nat.le_of_ble_eq_true rfl) (fun w hs => ?_)
  refine wZ <| cQ <| cR <| wm rfl <| wn rfl rfl <| wV rfl (run_field (o' := 7) underlying61 rfl ty3 rfl rfl rfl) <| wV rfl (run_load1 ty3 rfl (hs.c0 (v := .int .i64 (s.op : Nat)) rfl)) <| wV rfl (run_sub (c := ((s.op - 1 : Nat) : Int)) rfl rfl (by omega) (by omega)) <| wn rfl rfl <| wV rfl (run_field (o' := 7) underlying61 rfl ty3 rfl rfl rfl) ?_
  refine WL.store1 ty3 rfl rfl (rfl) hs (by first | (simp; done) | omega | (simp only [List.length_append, List.length_replicate, List.length_cons, List.length_nil, List.length_set]; omega) | (simp [Ent.cells, u8s]; done) | exact Nat.le_of_ble_eq_true rfl) (fun w hs => ?_)
  refine wZ <| cQ <| cR <| wa rfl <| wZ ?_
  refine CW.ret ?_
  refine fin_ret1 rfl ?_
  have hset : (Hs.map HB.val ++ more).set (0 + k * 1) (Value.pointer none) = (Hs.set k none).map HB.val ++ more := by
   rw [Nat.zero_add, Nat.mul_one, List.set_append_left _ _ (by simpa using hlt), List.map_set]
   rfl
  let s2 : VS := { s with H := s.H.set k none, op := s.op - 1 }
  replace hs : Step S ((bf, blk 61 (fsC mf md (.slice (some ⟨bl, 0, none⟩) Hs.length cap) s2)) :: (mf, mapS (mapF Fs 0) Fs.length) :: (md, mapS (mapDi Ds 0) Ds.length) :: (bl, blk 75 ((Hs.set k none).map HB.val ++ more)) :: (Fs.flatMap FB.own ++ (Ds.flatMap DB.own ++ Hs.flatMap HB.own))) w0 w := by
   rw [← hset]
   exact hs
  have h5 : Step S (((bf, blk 61 (fsC mf md (.slice (some ⟨bl, 0, none⟩) Hs.length cap) s2)) :: (mf, mapS (mapF Fs 0) Fs.length) :: (md, mapS (mapDi Ds 0) Ds.length) :: (bl, blk 75 ((Hs.set k none).map HB.val ++ more)) :: (Fs.flatMap FB.own ++ Ds.flatMap DB.own)) ++ Hs.flatMap HB.own) w0 w := by simpa only [List.cons_append, List.append_assoc] using hs
  have h6 := Step.shutE (a' := none) hlt (Step.dropL (Step.openE hk h5) : Step S (HB.own none ++ (_ ++ (Hs.eraseIdx k).flatMap HB.own)) w0 w)
  refine ⟨_, rfl, ⟨mf, md, .slice (some ⟨bl, 0, none⟩) Hs.length cap, [(bl, blk 75 ((Hs.set k none).map HB.val ++ more))], Fs, Ds, Hs.set k none, ?_⟩, h6⟩
  refine ⟨?_, ?_, o.fs, ?_, o.F, o.D, ?_⟩
  ·simp [List.append_assoc, s2]
  ·rw [List.length_set]
   refine ⟨by simp, .inr ⟨bl, cap, more, rfl, rfl, ?_⟩⟩
   rw [List.length_append, List.length_map, List.length_set, ← hc, List.length_append, List.length_map]
  ·intro h hm
   rcases List.mem_or_eq_of_mem_set hm with h1 | h1
   ·exact o.hs h h1
   ·cases h1
  ·show (Hs.set k none).map _ = s.H.set k none
   rw [List.map_set, o.H]
   rfl
end
end Go.Gx
/-! Vs6 -/
namespace Go.Gx
open Go.Proofs Go.Proofs.Tryz
set_option maxRecDepth 100000
theorem run_nilSl {P : Program} {f : Slots} {w : World} {d : Option Tmp} {ty : TypeId} {pos : String} {af : Array Edge} {x : Operand} {T T' E : TypeId} {a : Option Addr} {n c : Nat} (ht : P.underlying T = some (.slice E)) (hx : ev f x = .slice a n c) :
  (execOp (ev f) ⟨d, .binOp .eql T x (.const (.slice none 0 0)) T', ty, pos, af, none⟩).run P w = .ok (.value (.bool a.isNone)) w := by
 have h := run_equal_slice_nil (P := P) w T E a n c ht
 have e : ev f (.const (.slice none 0 0)) = .slice none 0 0 := rfl
 simp [execOp, hx, e, eqGuard_at_slice, binOp, h]
theorem clone_spec {v : Value} {s : List UInt8} (w0 : World) (hv : Sl w0 1 v s.length (u8s s)) (hs1 : s.length ≤ 140737488355328) :
  Calls Tryz.prog 20 #[v] w0 fun e w' => ∃ v' Lv, e = .returned v' ∧ OwnSl 5 1 v' s.length (u8s s) Lv ∧ Step [] Lv w0 w' := by
 have hs : Step [] [] w0 w0 := Step.refl w0
 have hcase : (s = [] ∧ ∃ c, v = .slice none s.length c) ∨ ∃ A c, v = .slice (some A) s.length c := by
  have hobt := id hv
  obtain ⟨_, ⟨a, c, rfl, h0⟩ | ⟨b, off, c, rfl, hat⟩⟩ := hobt
  ·cases a with
   | none => exact .inl ⟨List.eq_nil_of_length_eq_zero h0, _, rfl⟩
   | some A => exact .inr ⟨_, _, rfl⟩
  ·exact .inr ⟨_, _, rfl⟩
 obtain ⟨rfl, c, rfl⟩ | ⟨A, c, rfl⟩ := hcase
 ·skip
  refine calls (n := 8) Tryz.func20 rfl rfl rfl ?_
  refine cQ <| cR <| wa rfl <| wZ <| cQ <| cQ <| cR <| wm rfl <| wV rfl (run_nilSl underlying38 rfl) <| wZ ?_
  repeat (first | refine cQ ?_ | refine CW.condT rfl ?_)
  refine cR <| wa rfl <| wZ ?_
  refine CW.ret ?_
  refine fin_ret1 rfl ?_
  exact ⟨_, [], rfl, .nil _ _, hs⟩
 ·refine calls (n := 8) Tryz.func20 rfl rfl rfl ?_
  refine cQ <| cR <| wa rfl <| wZ <| cQ <| cQ <| cR <| wm rfl <| wV rfl (run_nilSl underlying38 rfl) <| wZ ?_
  repeat (first | refine cQ ?_ | refine cK ?_ | refine CW.condF rfl ?_)
  refine cR ?_
  refine WL.buildSlice underlying38 ty5 rfl (by decide) rfl (by rfl) rfl hs (fun b5 w hs => ?_)
  refine wm rfl ?_
  refine WL.append underlying38 underlying38 ty5 rfl (by decide) rfl rfl (.mk (xs := []) rfl) (hs) (hv.step0 hs) (Cells1.u8s s) (by first | omega | (simp only [List.length_append, List.length_cons, List.length_nil]; omega)) rfl (fun v7 Lv7 w hv7 hs => ?_)
  refine wa rfl <| wZ ?_
  refine CW.ret ?_
  refine fin_ret1 rfl ?_
  refine ⟨_, _, rfl, ?_, hs.dropR⟩
  have h2 := hv7
  rw [Nat.zero_add, List.nil_append] at h2
  exact h2
def VS.data (s : VS) (i : Nat) : List UInt8 := ((s.F[i]?).map (·.2)).getD []
def VS.read (s : VS) (h n : Int) : List UInt8 × Int × VS :=
 if (s.peek h n).2 ≠ 0 ∨ (s.peek h n).1 = 0 then ([], (s.peek h n).2, s) else
 match s.is h with
 | none => ([], 0, s)
 | some (i, pl, mo) => (((s.data i).drop pl).take (s.peek h n).1.toNat, 0, { s with H := s.H.set h.toNat (some (i, pl + (s.peek h n).1.toNat, mo)) })
section
variable {bf mf md : Nat} {s : VS} {L Lh : List (Nat × Obj)} {vh : Value} {Fs : List FB} {Ds : List DB} {Hs : List (Option HB)} {w0 : World}
theorem VOpen.data_ (o : VOpen bf s L mf md vh Lh Fs Ds Hs) {i : Nat} {r : FB} (hr : Fs[i]? = some r) : s.data i = r.x := by
 unfold VS.data
 rw [← o.F, List.getElem?_map, hr]
 rfl
/-- A handle's block set. -/
theorem VOpen.setH (o : VOpen bf s L mf md vh Lh Fs Ds Hs) {k : Nat} {hb : HB} (hk : Hs[k]? = some (some hb)) (pl : Nat) :
  ∃ L', VRep bf { s with H := s.H.set k (some (hb.i, pl, hb.mo)) } L' ∧ ((hb.b, blk 77 [.pointer (some ⟨hb.fb, 0, none⟩), .int .i64 (pl : Nat), .int .i64 (hb.mo : Nat)]) :: (((bf, blk 61 (fsC mf md vh s)) :: (mf, mapS (mapF Fs 0) Fs.length) :: (md, mapS (mapDi Ds 0) Ds.length) :: (Lh ++ (Fs.flatMap FB.own ++ Ds.flatMap DB.own))) ++ (Hs.eraseIdx k).flatMap HB.own)).Perm L' := by
 have hlt := (List.getElem?_eq_some_iff.1 hk).1
 let hb2 : HB := { hb with pl := pl }
 have h6 := fun A => (List.perm_append_comm_assoc (HB.own (some hb2)) A ((Hs.eraseIdx k).flatMap HB.own)).trans ((flat_shut (f := HB.own) (a := some hb2) hlt).append_left A)
 have hval : (Hs.set k (some hb2)).map HB.val = Hs.map HB.val := by
  rw [List.map_set]
  apply List.ext_getElem?
  intro j
  by_cases hj : k = j
  ·subst hj
   rw [List.getElem?_set_self (by simpa using hlt), List.getElem?_map, hk]
   rfl
  ·rw [List.getElem?_set_ne hj]
 refine ⟨_, ⟨mf, md, vh, Lh, Fs, Ds, Hs.set k (some hb2), ?_⟩, h6 ((bf, blk 61 (fsC mf md vh s)) :: (mf, mapS (mapF Fs 0) Fs.length) :: (md, mapS (mapDi Ds 0) Ds.length) :: (Lh ++ (Fs.flatMap FB.own ++ Ds.flatMap DB.own)))⟩
 refine ⟨by simp [fsC, List.append_assoc], ?_, o.fs, ?_, o.F, o.D, ?_⟩
 ·rw [List.length_set, hval]
  exact o.vh
 ·intro h hm
  rcases List.mem_or_eq_of_mem_set hm with h1 | h1
  ·exact o.hs h h1
  ·cases h1
   exact o.hs hb (List.mem_of_getElem? hk)
 ·show (Hs.set k (some hb2)).map _ = s.H.set k _
  rw [List.map_set, o.H]
  rfl
set_option maxHeartbeats 2000000 in
theorem read_spec (hR : VRep bf s L) (ok : s.Ok) (hw : Step (L.map (·.1)) L w0 w0) {h n : Int} (hn : -9223372036854775808 ≤ n ∧ n ≤ 9223372036854775807) : Calls Tryz.prog 16 #[.pointer (some ⟨bf, 0, none⟩), .int .i64 h, .int .i64 n] w0 fun e w' => ∃ v' Lv L', e = .returned (.tuple #[v', .int .i64 (s.read h n).2.1]) ∧ OwnSl 5 1 v' (s.read h n).1.length (u8s (s.read h n).1) Lv ∧ VRep bf (s.read h n).2.2 L' ∧ Step (L.map (·.1)) (Lv ++ L') w0 w' := by
 have hR0 := hR
 obtain ⟨mf, md, vh, Lh, Fs, Ds, Hs, o⟩ := hR
 have hs : Step (L.map (·.1)) L w0 w0 := hw
 by_cases hbad : (s.peek h n).2 ≠ 0 ∨ (s.peek h n).1 = 0
 ·rw [show s.read h n = ([], (s.peek h n).2, s) by unfold VS.read; rw [if_pos hbad]]
  have hpk := fun {w} hw => peek_spec (w0 := w) (h := h) o ok hw hn
  have hobt : ∃ kz ez, s.peek h n = (kz, ez) := ⟨_, _, rfl⟩
  obtain ⟨kz, ez, hpe⟩ := hobt
  simp only [hpe] at hbad hpk ⊢
  by_cases he : ez = 0
  ·have hk0 : kz = 0 := by
    rcases hbad with h1 | h1
    ·exact absurd he h1
    ·exact h1
   refine calls (n := 58) Tryz.func16 rfl rfl rfl ?_
   refine cQ <| cR <| wa rfl <| wa rfl <| wZ <| cQ <| cR <| wm rfl <| wm rfl <| wm rfl ?_
   refine wE rfl (run_call en29 rfl rfl) (hpk hs.has) ?_
   rintro e w ⟨rfl, hq⟩
   refine ⟨_, rfl, ?_⟩
   replace hs := hs.callE hq
   refine wm rfl <| wx rfl rfl rfl <| wx rfl rfl rfl <| wa rfl <| wa rfl <| wZ <| cQ <| cQ <| cR <| wm rfl <| wV rfl (run_bF (run_neq rfl rfl) (by exact fun h => h he)) <| wm rfl <| WL.yes rfl rfl rfl <| wm rfl <| WL.yes rfl rfl rfl <| wV rfl (run_bT (run_eql rfl rfl) (by exact hk0)) <| wV rfl (run_pickF rfl) <| wZ ?_
   refine cC rfl (fun h => ?_) (fun h => ?_)
   ·refine cQ <| cR <| wm rfl <| wa rfl <| wa rfl <| wZ ?_
    refine CW.ret ?_
    refine fin_ret2 rfl ?_
    exact ⟨_, [], L, rfl, OwnSl.nil _ _, hR0, hs⟩
   ·cases h
  ·refine calls (n := 58) Tryz.func16 rfl rfl rfl ?_
   refine cQ <| cR <| wa rfl <| wa rfl <| wZ <| cQ <| cR <| wm rfl <| wm rfl <| wm rfl ?_
   refine wE rfl (run_call en29 rfl rfl) (hpk hs.has) ?_
   rintro e w ⟨rfl, hq⟩
   refine ⟨_, rfl, ?_⟩
   replace hs := hs.callE hq
   refine wm rfl <| wx rfl rfl rfl <| wx rfl rfl rfl <| wa rfl <| wa rfl <| wZ <| cQ <| cQ <| cR <| wm rfl <| wV rfl (run_bT (run_neq rfl rfl) (by exact he)) <| wm rfl <| WL.no rfl rfl rfl (.inl rfl) <| WL.no rfl rfl rfl (.inl rfl) <| wV rfl (run_pickT rfl) <| wZ ?_
   refine cC rfl (fun h => ?_) (fun h => ?_)
   ·refine cQ <| cR <| wm rfl <| wa rfl <| wa rfl <| wZ ?_
    refine CW.ret ?_
    refine fin_ret2 rfl ?_
    exact ⟨_, [], L, rfl, OwnSl.nil _ _, hR0, hs⟩
   ·cases h
 ·rcases o.his h with ⟨hi, _⟩ | ⟨k, hb, rfl, hk, hi⟩
  ·exfalso
   apply hbad
   unfold VS.peek
   rw [hi]
   exact .inl (by simp)
  ·have hobt := o.file hk
   obtain ⟨r, hr, hfb⟩ := hobt
   have hobt := o.bnd ok hk hr
   obtain ⟨b1, b2, b3⟩ := hobt
   have hl := o.len_ hr
   have hdat := o.data_ hr
   have hlt := (List.getElem?_eq_some_iff.1 hk).1
   have hpk := fun {w} hw => peek_spec (w0 := w) (h := (k : Int)) o ok hw hn
   have hobt : ∃ kz ez, s.peek (k : Int) n = (kz, ez) := ⟨_, _, rfl⟩
   obtain ⟨kz, ez, hpe⟩ := hobt
   have hread : s.read (k : Int) n = (((r.x).drop hb.pl).take kz.toNat, 0, { s with H := s.H.set k (some (hb.i, hb.pl + kz.toNat, hb.mo)) }) := by
    unfold VS.read
    rw [if_neg hbad, hi, hpe]
    simp only [hdat, Int.toNat_natCast]
   rw [hread]
   have hpv : kz = min n (max 0 ((r.x.length : Int) - hb.pl)) ∧ ¬ n < 0 := by
    have h1 := hpe
    unfold VS.peek at h1
    rw [hi] at h1
    simp only [hl] at h1
    split at h1
    ·injection h1 with h1 h2
     exact absurd (by rw [hpe]; exact .inl (by rw [← h2]; simp)) hbad
    ·split at h1
     ·injection h1 with h1 h2
      exact absurd (by rw [hpe]; exact .inl (by rw [← h2]; simp)) hbad
     ·rename_i h3
      injection h1 with h1 h2
      exact ⟨h1.symm, h3⟩
   simp only [hpe] at hbad hpk
   have hez : ez = 0 := Classical.byContradiction fun h => hbad (.inl h)
   have hkz : kz ≠ 0 := fun h => hbad (.inr h)
   subst hez
   have hobt : ∃ j : Nat, kz = j := ⟨kz.toNat, by omega⟩
   obtain ⟨j, rfl⟩ := hobt
   rw [Int.toNat_natCast]
   have hj1 : hb.pl + j ≤ r.x.length := by omega
   have hj0 : 0 < j := by omega
   obtain ⟨bx, ox, cx, hvx⟩ : ∃ b o c, r.v = .slice (some ⟨b, o, none⟩) r.x.length c ∧ r.x.length ≤ c := by
    have hobt := o.fs r (List.mem_of_getElem? hr)
    obtain ⟨_, ⟨_, h0, _⟩ | ⟨b, c, more, h1, _, h2⟩⟩ := hobt
    ·omega
    ·refine ⟨b, 0, c, h1, ?_⟩
     rw [List.length_append] at h2
     simp only [u8s, List.length_map] at h2
     omega
   obtain ⟨hvx, hcx⟩ := hvx
   obtain ⟨bl, ol, cl, hvl⟩ : ∃ b o c, vh = .slice (some ⟨b, o, none⟩) Hs.length c := by
    have hobt := o.vh.some1 (by omega)
    obtain ⟨b, c, more, h1, _⟩ := hobt
    exact ⟨b, 0, c, h1⟩
   have hcell : ∀ {w : World}, (∀ p ∈ L, w.heap[p.1]? = some p.2) → w.cell? ⟨bl, ol + k * 1, none⟩ = some (.pointer (some ⟨hb.b, 0, none⟩)) := fun hw => by
    have h1 := o.hsl hw
    rw [hvl] at h1
    have hobt := h1.based (by omega)
    obtain ⟨b', o', c', e, hat⟩ := hobt
    cases e
    rw [Nat.mul_one]
    exact hat.cell (by rw [List.getElem?_map, hk]; rfl)
   have hfs := fun {w} hw => (o.at (w := w) hw).cell (j := 2) (v := .slice (some ⟨bl, ol, none⟩) Hs.length cl) (by rw [← hvl]; rfl)
   have hobt : ∃ S, L.map (·.1) = S := ⟨_, rfl⟩
   obtain ⟨S, hS⟩ := hobt
   rw [hS] at hs ⊢
   refine calls (n := 58) Tryz.func16 rfl rfl rfl ?_
   refine cQ <| cR <| wa rfl <| wa rfl <| wZ <| cQ <| cR <| wm rfl <| wm rfl <| wm rfl ?_
   refine wE rfl (run_call en29 rfl rfl) (hpk hs.has) ?_
   rintro e w ⟨rfl, hq⟩
   refine ⟨_, rfl, ?_⟩
   replace hs := hs.callE hq
   refine wm rfl <| wx rfl rfl rfl <| wx rfl rfl rfl <| wa rfl <| wa rfl <| wZ <| cQ <| cQ <| cR <| wm rfl <| wV rfl (run_bF (run_neq rfl rfl) (by exact fun h => h rfl)) <| wm rfl <| WL.yes rfl rfl rfl <| wm rfl <| WL.yes rfl rfl rfl <| wV rfl (run_bF (run_eql rfl rfl) (by omega)) <| wV rfl (run_pickF rfl) <| wZ ?_
   refine cC rfl (fun h => ?_) (fun h => ?_)
   ·cases h
   repeat (first | refine cQ ?_ | refine cK ?_)
   refine cR <| wm rfl <| wn rfl rfl <| wV rfl (run_field (o' := 2) underlying61 rfl ty59 rfl rfl rfl) <| wV rfl (run_load1 ty59 rfl ((hfs hs.has))) <| wm rfl <| wV rfl (run_ixSlN underlying59 ty75 rfl rfl (by omega)) <| wV rfl (run_load1 ty75 rfl ((hcell hs.has))) <| wa rfl <| wZ ?_
   have h5 : Step S (((bf, blk 61 (fsC mf md vh s)) :: (mf, mapS (mapF Fs 0) Fs.length) :: (md, mapS (mapDi Ds 0) Ds.length) :: (Lh ++ (Fs.flatMap FB.own ++ Ds.flatMap DB.own))) ++ Hs.flatMap HB.own) w0 w := by
    have h := hs
    rw [o.L] at h
    simpa only [List.cons_append, List.append_assoc] using h
   clear hs
   have hs := Step.openE hk h5
   replace hs : Step S ((hb.b, blk 77 [.pointer (some ⟨hb.fb, 0, none⟩), .int .i64 (hb.pl : Nat), .int .i64 (hb.mo : Nat)]) :: (((bf, blk 61 (fsC mf md vh s)) :: (mf, mapS (mapF Fs 0) Fs.length) :: (md, mapS (mapDi Ds 0) Ds.length) :: (Lh ++ (Fs.flatMap FB.own ++ Ds.flatMap DB.own))) ++ (Hs.eraseIdx k).flatMap HB.own)) w0 w := hs
   refine cQ <| cR <| wm rfl <| wn rfl rfl <| wV rfl (run_field (o' := 1) underlying77 rfl ty3 rfl rfl rfl) <| wV rfl (run_load1 ty3 rfl (hs.c0 (v := .int .i64 (hb.pl : Nat)) rfl)) <| wm rfl <| wV rfl (run_add (c := ((hb.pl + j : Nat) : Int)) rfl rfl (by omega) (by omega)) <| wn rfl rfl <| wV rfl (run_field (o' := 1) underlying77 rfl ty3 rfl rfl rfl) ?_
   refine WL.store1 ty3 rfl rfl (rfl) hs (by first | (simp; done) | omega | (simp only [List.length_append, List.length_replicate, List.length_cons, List.length_nil, List.length_set]; omega) | (simp [Ent.cells, u8s]; done) | exact Nat.le_of_ble_eq_true rfl) (fun w hs => ?_)
   refine wZ ?_
   replace hs : Step S ((hb.b, blk 77 [.pointer (some ⟨hb.fb, 0, none⟩), .int .i64 (hb.pl + j : Nat), .int .i64 (hb.mo : Nat)]) :: (((bf, blk 61 (fsC mf md vh s)) :: (mf, mapS (mapF Fs 0) Fs.length) :: (md, mapS (mapDi Ds 0) Ds.length) :: (Lh ++ (Fs.flatMap FB.own ++ Ds.flatMap DB.own))) ++ (Hs.eraseIdx k).flatMap HB.own)) w0 w := hs
   have hfo : ∀ p ∈ r.own, p ∈ Fs.flatMap FB.own := fun p hp => flat_mem hr hp
   have hfat : ∀ {w : World}, Step S ((hb.b, blk 77 [.pointer (some ⟨hb.fb, 0, none⟩), .int .i64 (hb.pl + j : Nat), .int .i64 (hb.mo : Nat)]) :: (((bf, blk 61 (fsC mf md vh s)) :: (mf, mapS (mapF Fs 0) Fs.length) :: (md, mapS (mapDi Ds 0) Ds.length) :: (Lh ++ (Fs.flatMap FB.own ++ Ds.flatMap DB.own))) ++ (Hs.eraseIdx k).flatMap HB.own)) w0 w → At w hb.fb 0 [str r.p, r.v] ∧ At w bx ox (u8s r.x) := fun {w} hs => by
    have hm : ∀ p ∈ r.own, w.heap[p.1]? = some p.2 := fun p hp => hs.has p (by simp [hfo p hp])
    refine ⟨by rw [hfb]; exact At.of_blk (hm (r.b, blk 67 [str r.p, r.v]) (by simp [FB.own])), ?_⟩
    have h1 := (o.fs r (List.mem_of_getElem? hr)).slW (w := w) fun p hp => hm p (by simp [FB.own, hp])
    rw [hvx] at h1
    have hobt := h1.based (by omega)
    obtain ⟨b', o', c', e, hat⟩ := hobt
    cases e
    exact hat
   have hsub : ∀ {w : World}, At w bx ox (u8s r.x) → Sl w 1 (.slice (some ⟨bx, ox + hb.pl * 1, none⟩) (hb.pl + j - hb.pl) (cx - hb.pl)) ((r.x.drop hb.pl).take j).length (u8s ((r.x.drop hb.pl).take j)) := fun h => by
    have e : ((r.x.drop hb.pl).take j).length = hb.pl + j - hb.pl := by simp; omega
    rw [e, Nat.mul_one]
    refine .mk (by simp [u8s]; omega) ?_
    have h2 := (h.drop hb.pl).take j
    simpa [u8s, List.map_drop, List.map_take] using h2
   refine cQ ?_
   refine CW.quietT (l1 := [_, _, _, _, _, _, _, _, _, _, _, _, _, _, _, _, _, _]) (l2 := [_, _, _]) 18 rfl mixedP rfl (by kernel_rfl) hs ?_
   refine qm rfl <| qn rfl rfl <| qV rfl (fun w hs => run_field (o' := 0) underlying77 rfl ty62 rfl rfl rfl) <| qV rfl (fun w hs => run_load1 ty62 rfl (hs.c0 (v := .pointer (some ⟨hb.fb, 0, none⟩)) rfl)) <| qn rfl rfl <| qV rfl (fun w hs => run_field (o' := 1) underlying67 rfl ty38 rfl rfl rfl) ?_
   refine qV rfl (fun w hs => run_load1 ty38 rfl ((hfat hs).1.cell (j := 1) (v := .slice (some ⟨bx, ox, none⟩) r.x.length cx) (by rw [← hvx]; rfl))) ?_
   refine qm rfl <| qn rfl rfl <| qV rfl (fun w hs => run_field (o' := 1) underlying77 rfl ty3 rfl rfl rfl) <| qV rfl (fun w hs => run_load1 ty3 rfl (hs.c0 (v := .int .i64 (hb.pl + j : Nat)) rfl)) <| qm rfl <| qV rfl (fun w hs => run_sub (c := ((hb.pl : Nat) : Int)) rfl rfl (by omega) (by omega)) <| qm rfl <| qn rfl rfl <| qV rfl (fun w hs => run_field (o' := 1) underlying77 rfl ty3 rfl rfl rfl) <| qV rfl (fun w hs => run_load1 ty3 rfl (hs.c0 (v := .int .i64 (hb.pl + j : Nat)) rfl)) <| qV rfl (fun w hs => run_sliceSlP  underlying38 ty5 rfl rfl rfl rfl (by simp) (by omega) (by omega) (by omega) (by omega)) ?_
   refine QL.nil (fun w hs => ?_)
   refine wE rfl (run_call en20 rfl rfl) (clone_spec _ (hsub (hfat hs).2) (by simp; omega)) ?_
   rintro e w ⟨v', Lv, rfl, hu, hq⟩
   refine ⟨_, rfl, ?_⟩
   replace hs := hs.call0 hq
   refine wa rfl <| wa rfl <| wZ ?_
   refine CW.ret ?_
   refine fin_ret2 rfl ?_
   have hobt := o.setH hk (hb.pl + j)
   obtain ⟨L', hL', hp⟩ := hobt
   exact ⟨v', Lv, L', rfl, hu, hL', hs.perm (hp.append_left Lv)⟩
end
end Go.Gx
/-! Vs7 -/
namespace Go.Gx
open Go.Proofs Go.Proofs.Tryz
set_option maxRecDepth 100000
section
variable {P : Program} {ops : Array Oper} {Q : Post} {n : Nat} {rest : List Oper} {f : Slots} {ds : List Deferred} {w w0 : World} {ty : TypeId} {pos : String} {af : Array Edge} {x y : Operand} {T T' E : TypeId} {d : Nat} {S : List Nat} {L : List (Nat × Obj)}
/-- append(v, make([]T, m)...), v our own. -/
theorem WL.appendZO {agg : Bool} {bytes k m : Nat} {z : Value} {xs : List Value} {v : Value} {Lv : List (Nat × Obj)} {kn : IntKind} (ht : P.underlying T = some (.slice E)) (ht' : P.underlying T' = some (.int kn)) (hE : Ty P E agg 1 bytes [z]) (hz1 : z.oneCell' = true) (hzl : [z].length = 1) (hb0 : 0 < bytes)
  (hx : ev f x = v) (hy : ev f y = .int .i64 m) (hv : OwnSl E 1 v k xs Lv) (hs : Step S (Lv ++ L) w0 w) (hm : 0 < m) (hroom : (k + m) * bytes ≤ 140737488355328) (hd : Nat.blt d n = true)
  (h : ∀ v' Lv' w', OwnSl E 1 v' (k + m) (xs ++ List.replicate m z) Lv' → Step S (Lv' ++ L) w0 w' → WL P ops Q n rest (upd f d v') ds w') :
  WL P ops Q n (⟨some d, .call { callee := .builtin .append, args := #[x, y], argTypes := #[T, T'] }, ty, pos, af, none⟩ :: rest) f ds w := by
 have hfl : ∀ j, (List.replicate j [z]).flatten = List.replicate j z := fun j => by
  induction j with
  | zero => rfl
  | succ j ih => rw [List.replicate_succ, List.flatten_cons, ih, List.replicate_succ]; rfl
 have hsl := hv.sl hs
 have hobt := hv.form
 obtain ⟨a, cap, rfl⟩ := hobt
 have ha : ∃ a' c', Value.slice a k cap = .slice a' k c' := ⟨a, cap, rfl⟩
 by_cases hfit : k + m ≤ cap
 ·obtain ⟨hl, ⟨h1, rfl, rfl⟩ | ⟨b, cap', more, h1, rfl, hcap⟩⟩ := hv
  ·cases h1
   omega
  ·cases h1
   have hkm : (k + m) * 1 ≤ (k + m) * bytes := Nat.mul_le_mul_left _ hb0
   have hobt := hE.info
   obtain ⟨i, z0, hi, hsz, hby, hz0, hc0, _⟩ := hobt
   have hwm : IntKind.i64.wrap (m : Int) = m := wrap_i64 (by omega)
   have hm48 : ¬ (281474976710656 < (m : Int) * (i.bytes : Int)) := by
    rw [hby]
    have h1 : m * bytes ≤ (k + m) * bytes := Nat.mul_le_mul_right _ (by omega)
    have h2 : ((m * bytes : Nat) : Int) ≤ ((140737488355328 : Nat) : Int) := Int.ofNat_le.2 (Nat.le_trans h1 hroom)
    rw [Int.natCast_mul] at h2
    omega
   have hmneg : ¬ ((m : Int) < 0) := by omega
   have hzc : ∀ j, Builtin.zeroCells z0.cells j = (List.replicate j z).toArray := fun j => by
    rw [hc0]
    have := zero_row [z] j
    rw [hfl] at this
    simpa [Builtin.zeroCells] using this
   have hlm : (xs ++ more).length = xs.length + more.length := by simp
   have hle : (List.replicate m z).length ≤ more.length := by
    rw [List.length_replicate]
    omega
   have hst := run_storeCells (P := P) (List.replicate m z) 0 (k * 1) b E (xs ++ more) w hs.hd (by rw [hlm]; omega) (fun u hu => by rw [List.mem_replicate] at hu; rw [hu.2]; exact hz1)
   have hm0 : ¬ m = 0 := by omega
   have hr : (Builtin.append_ #[T, T'] ty #[.slice (some ⟨b, 0, none⟩) k cap, .int .i64 m]).run P w = .ok (.slice (some ⟨b, 0, none⟩) (k + m) cap) (setRow w b (k * 1 + 0) (List.replicate m z)) := by
    rw [Nat.mul_one] at hst ⊢
    simp [Builtin.append_, run_underlying ht, run_underlying ht', sizeOf, typeInfo, zeroValue, hi, hz0, hsz, hfit, hzc, asInt, asIntOf, hwm, hm48, hmneg, hm0, add_off, hst]
   have hrow := Step.row (List.replicate m z) (k * 1) (xs ++ more) w hs (by rw [hlm]; omega)
   rw [← hl, splice_end xs more _ hle] at hrow
   rw [Nat.add_zero, ← hl] at hr
   refine wV hd ?_ (h _ [(b, blk E (xs ++ List.replicate m z ++ more.drop (List.replicate m z).length))] _ ⟨by simp [hl], .inr ⟨b, cap, more.drop (List.replicate m z).length, rfl, rfl, ?_⟩⟩ hrow)
   ·simp [execOp, hx, hy, resolve, invoke, builtin, hr]
   ·simp only [List.length_append, List.length_drop, List.length_replicate] at hcap hle ⊢
    omega
 ·refine WL.appendZ ht ht' hE hzl hb0 hx hy hsl hs.dropL (by omega) hroom hd fun v' Lv' w' ho hs' => ?_
  rw [hfl] at ho
  exact h v' Lv' w' ho hs'
end
/-- b laid into x from a on; zeros between. -/
def overL (x : List UInt8) (a : Nat) (b : List UInt8) : List UInt8 := (x ++ List.replicate (a + b.length - x.length) 0).take a ++ b ++ (x ++ List.replicate (a + b.length - x.length) 0).drop (a + b.length)
theorem overL_len (x : List UInt8) (a : Nat) (b : List UInt8) : (overL x a b).length = max x.length (a + b.length) := by
 unfold overL
 simp only [List.length_append, List.length_take, List.length_drop, List.length_replicate]
 omega
def VS.pth (s : VS) (i : Nat) : List UInt8 := ((s.F[i]?).map (·.1)).getD []
def VS.write (s : VS) (h : Int) (b : List UInt8) : Int × VS :=
 if s.may h b.length ≠ 0 ∨ b = [] then (s.may h b.length, s) else
 match s.is h with
 | none => (0, s)
 | some (i, pl, mo) => (0, { s with F := s.F.set i (s.pth i, overL (s.data i) (s.from_ i pl mo) b), H := s.H.set h.toNat (some (i, s.from_ i pl mo + b.length, mo)), by_ := s.by_ + (s.from_ i pl mo + b.length - s.len i) })
section
variable {bf mf md : Nat} {s : VS} {L Lh : List (Nat × Obj)} {vh : Value} {Fs : List FB} {Ds : List DB} {Hs : List (Option HB)} {w0 : World}
theorem VOpen.pth_ (o : VOpen bf s L mf md vh Lh Fs Ds Hs) {i : Nat} {r : FB} (hr : Fs[i]? = some r) : s.pth i = r.p := by
 unfold VS.pth
 rw [← o.F, List.getElem?_map, hr]
 rfl
theorem mapF_set : ∀ (Fs : List FB) (k i : Nat) (r r' : FB), Fs[i]? = some r → r'.p = r.p → r'.b = r.b → mapF (Fs.set i r') k = mapF Fs k
 | [], _, _, _, _, h, _, _ => by simp at h
 | a :: l, k, 0, r, r', h, h1, h2 => by
  simp only [List.getElem?_cons_zero, Option.some.injEq] at h
  subst h
  simp only [List.set_cons_zero, mapF, h1, h2]
 | a :: l, k, i + 1, r, r', h, h1, h2 => by
  rw [List.getElem?_cons_succ] at h
  simp only [List.set_cons_succ, mapF, mapF_set l (k + 1) i r r' h h1 h2]
/-- What is neither the handle, nor the file, nor the FS itself. -/
def rest2 (mf md : Nat) (Lh : List (Nat × Obj)) (Fs : List FB) (Ds : List DB) (Hs : List (Option HB)) (k i : Nat) : List (Nat × Obj) := (mf, mapS (mapF Fs 0) Fs.length) :: (md, mapS (mapDi Ds 0) Ds.length) :: (Lh ++ ((Fs.eraseIdx i).flatMap FB.own ++ (Ds.flatMap DB.own ++ (Hs.eraseIdx k).flatMap HB.own)))
theorem VOpen.openFH (o : VOpen bf s L mf md vh Lh Fs Ds Hs) {k i : Nat} {hb : HB} {r : FB} (hk : Hs[k]? = some (some hb)) (hr : Fs[i]? = some r) :
  L.Perm ((hb.b, blk 77 [.pointer (some ⟨hb.fb, 0, none⟩), .int .i64 (hb.pl : Nat), .int .i64 (hb.mo : Nat)]) :: (r.b, blk 67 [str r.p, r.v]) :: (bf, blk 61 (fsC mf md vh s)) :: (r.Lv ++ rest2 mf md Lh Fs Ds Hs k i)) := by
 classical
 have h1 := flat_open (f := FB.own) hr
 have h2 := flat_open (f := HB.own) hk
 rw [o.L]
 refine List.perm_iff_count.2 fun x => ?_
 have e1 := h1.count_eq x
 have e2 := h2.count_eq x
 simp only [rest2, FB.own, HB.own, List.count_append, List.count_cons, List.count_nil] at e1 e2 ⊢
 omega
/-- A handle's place and its file's bytes set. -/
theorem VOpen.setFH (o : VOpen bf s L mf md vh Lh Fs Ds Hs) {k : Nat} {hb : HB} {r : FB} (hk : Hs[k]? = some (some hb)) (hr : Fs[hb.i]? = some r) (hfb : hb.fb = r.b) (pl by' : Nat) {v' : Value} {x' : List UInt8} {Lv' : List (Nat × Obj)} (hv : OwnSl 5 1 v' x'.length (u8s x') Lv') :
  ∃ L', VRep bf { s with F := s.F.set hb.i (r.p, x'), H := s.H.set k (some (hb.i, pl, hb.mo)), by_ := by' } L' ∧ ((hb.b, blk 77 [.pointer (some ⟨hb.fb, 0, none⟩), .int .i64 (pl : Nat), .int .i64 (hb.mo : Nat)]) :: (r.b, blk 67 [str r.p, v']) :: (bf, blk 61 (fsC mf md vh { s with by_ := by' })) :: (Lv' ++ rest2 mf md Lh Fs Ds Hs k hb.i)).Perm L' := by
 classical
 have hlt := (List.getElem?_eq_some_iff.1 hk).1
 have hlr := (List.getElem?_eq_some_iff.1 hr).1
 let hb2 : HB := { hb with pl := pl }
 let r2 : FB := { r with v := v', x := x', Lv := Lv' }
 have h1 := flat_shut (f := FB.own) (a := r2) hlr
 have h2 := flat_shut (f := HB.own) (a := some hb2) hlt
 have hval : (Hs.set k (some hb2)).map HB.val = Hs.map HB.val := by
  rw [List.map_set]
  apply List.ext_getElem?
  intro j
  by_cases hj : k = j
  ·subst hj
   rw [List.getElem?_set_self (by simpa using hlt), List.getElem?_map, hk]
   rfl
  ·rw [List.getElem?_set_ne hj]
 refine ⟨_, ⟨mf, md, vh, Lh, Fs.set hb.i r2, Ds, Hs.set k (some hb2), ⟨rfl, ?_, ?_, ?_, ?_, o.D, ?_⟩⟩, ?_⟩
 ·rw [List.length_set, hval]
  exact o.vh
 ·intro c hc
  rcases List.mem_or_eq_of_mem_set hc with h | h
  ·exact o.fs c h
  ·subst h
   exact hv
 ·intro h hm
  have hgo : ∀ h : HB, some h ∈ Hs → ∃ r', (Fs.set hb.i r2)[h.i]? = some r' ∧ h.fb = r'.b := fun h hm => by
   have hobt := o.hs h hm
   obtain ⟨r', e1, e2⟩ := hobt
   by_cases he : hb.i = h.i
   ·rw [← he] at e1 ⊢
    rw [hr] at e1
    cases e1
    exact ⟨r2, List.getElem?_set_self hlr, e2⟩
   ·exact ⟨r', by rw [List.getElem?_set_ne he]; exact e1, e2⟩
  rcases List.mem_or_eq_of_mem_set hm with h1 | h1
  ·exact hgo h h1
  ·cases h1
   exact hgo hb (List.mem_of_getElem? hk)
 ·show (Fs.set hb.i r2).map _ = s.F.set hb.i _
  rw [List.map_set, o.F]
 ·show (Hs.set k (some hb2)).map _ = s.H.set k _
  rw [List.map_set, o.H]
  rfl
 ·refine List.perm_iff_count.2 fun x => ?_
  have e1 := h1.count_eq x
  have e2 := h2.count_eq x
  have e3 : mapF (Fs.set hb.i r2) 0 = mapF Fs 0 := mapF_set Fs 0 hb.i r r2 hr rfl rfl
  simp only [rest2, FB.own, HB.own, fsC, List.count_append, List.count_cons, List.count_nil, List.length_set, e3] at e1 e2 ⊢
  simp only [r2, hb2] at e1 e2 ⊢
  omega
end
end Go.Gx
/-! Vs8 -/
namespace Go.Gx
open Go.Proofs Go.Proofs.Tryz
set_option maxRecDepth 100000
theorem splice_over (x b more : List UInt8) (a : Nat) (ha : a + b.length ≤ x.length) (hm : List Value) : splice (u8s x ++ hm) a (u8s b) = u8s (x.take a ++ b ++ x.drop (a + b.length)) ++ hm := by
 have e1 : (u8s x).length = x.length := by simp [u8s]
 have e2 : (u8s b).length = b.length := by simp [u8s]
 unfold splice
 rw [List.take_append_of_le_length (by omega), List.drop_append_of_le_length (by omega), e2]
 simp [u8s, List.map_take, List.map_drop, List.append_assoc]
theorem over_in {x b : List UInt8} {a : Nat} (h : a + b.length ≤ x.length) : overL x a b = x.take a ++ b ++ x.drop (a + b.length) := by
 unfold overL
 rw [show a + b.length - x.length = 0 by omega]
 simp
theorem over_out {x b : List UInt8} {a m : Nat} (h : x.length + m = a + b.length) : overL x a b = (x ++ List.replicate m 0).take a ++ b ++ (x ++ List.replicate m 0).drop (a + b.length) := by
 unfold overL
 rw [show a + b.length - x.length = m by omega]
theorem u8s_rep (x : List UInt8) (m : Nat) : u8s x ++ List.replicate m (Value.int .u8 0) = u8s (x ++ List.replicate m 0) := by simp [u8s]
section
variable {α : Type}
theorem perm_wr1 {a b c : α} {l r : List α} : (a :: b :: c :: (l ++ r)).Perm (l ++ (b :: a :: c :: r)) := by
 classical
 exact List.perm_iff_count.2 fun x => by
  simp only [List.count_append, List.count_cons, List.count_nil]
  omega
theorem perm_wr2 {a b c : α} {l r : List α} : (l ++ (b :: a :: c :: r)).Perm (b :: a :: c :: (l ++ r)) := by
 classical
 exact List.perm_iff_count.2 fun x => by
  simp only [List.count_append, List.count_cons, List.count_nil]
  omega
end
section
variable {bf : Nat} {s : VS} {L : List (Nat × Obj)} {w0 : World}
set_option maxHeartbeats 4000000 in
theorem write_spec (hR : VRep bf s L) (ok : s.Ok) (hw : Step (L.map (·.1)) L w0 w0) {h : Int} {vb : Value} {b : List UInt8} (hb0 : b.length ≤ 9223372036854775807) (hsb : ∀ {L' w}, Step (L.map (·.1)) L' w0 w → Sl w 1 vb b.length (u8s b)) : Calls Tryz.prog 15 #[.pointer (some ⟨bf, 0, none⟩), .int .i64 h, vb] w0 fun e w' => ∃ L', e = .returned (.int .i64 (s.write h b).1) ∧ VRep bf (s.write h b).2 L' ∧ Step (L.map (·.1)) L' w0 w' := by
 have hR0 := hR
 obtain ⟨mf, md, vh, Lh, Fs, Ds, Hs, o⟩ := hR
 have hs : Step (L.map (·.1)) L w0 w0 := hw
 have hobt := (hsb hs).form
 obtain ⟨ab, cb, rfl⟩ := hobt
 have hmay := fun {w} hw => may_spec (w0 := w) (h := h) (n := (b.length : Nat)) o ok hw ⟨by omega, by omega⟩
 by_cases hbad : s.may h b.length ≠ 0 ∨ b = []
 ·rw [show s.write h b = (s.may h b.length, s) by unfold VS.write; rw [if_pos hbad]]
  have hobt : ∃ ez, s.may h b.length = ez := ⟨_, rfl⟩
  obtain ⟨ez, hez⟩ := hobt
  rw [hez] at hbad hmay ⊢
  by_cases he : ez = 0
  ·have hb0 : b.length = 0 := by
    rcases hbad with h1 | h1
    ·exact absurd he h1
    ·rw [h1]; rfl
   refine calls (n := 89) Tryz.func15 rfl rfl rfl ?_
   refine cQ <| cR <| wa rfl <| wZ <| cQ <| cQ <| cR <| wm rfl <| wm rfl <| wm rfl <| wV rfl (run_lenSl underlying38 rfl) ?_
   refine wE rfl (run_call en34 rfl rfl) (hmay hs.has) ?_
   rintro e w ⟨rfl, hq⟩
   refine ⟨_, rfl, ?_⟩
   replace hs := hs.callE hq
   refine wa rfl <| wZ <| cQ <| cR <| wm rfl <| wV rfl (run_bF (run_neq rfl rfl) (by exact fun h => h he)) <| wm rfl <| WL.yes rfl rfl rfl <| wm rfl <| WL.yes rfl rfl rfl <| wV rfl (run_lenSl underlying38 rfl) <| WL.yes rfl rfl rfl <| wV rfl (run_bT (run_eql rfl rfl) (by omega)) <| wV rfl (run_pickF rfl) <| wZ ?_
   refine cC rfl (fun h => ?_) (fun h => ?_)
   ·refine cQ <| cR <| wm rfl <| wa rfl <| wZ ?_
    refine CW.ret ?_
    refine fin_ret1 rfl ?_
    exact ⟨L, rfl, hR0, hs⟩
   ·cases h
  ·refine calls (n := 89) Tryz.func15 rfl rfl rfl ?_
   refine cQ <| cR <| wa rfl <| wZ <| cQ <| cQ <| cR <| wm rfl <| wm rfl <| wm rfl <| wV rfl (run_lenSl underlying38 rfl) ?_
   refine wE rfl (run_call en34 rfl rfl) (hmay hs.has) ?_
   rintro e w ⟨rfl, hq⟩
   refine ⟨_, rfl, ?_⟩
   replace hs := hs.callE hq
   refine wa rfl <| wZ <| cQ <| cR <| wm rfl <| wV rfl (run_bT (run_neq rfl rfl) (by exact he)) <| wm rfl <| WL.no rfl rfl rfl (.inl rfl) <| WL.no rfl rfl rfl (.inl rfl) <| WL.no rfl rfl rfl (.inl rfl) <| wV rfl (run_pickT rfl) <| wZ ?_
   refine cC rfl (fun h => ?_) (fun h => ?_)
   ·refine cQ <| cR <| wm rfl <| wa rfl <| wZ ?_
    refine CW.ret ?_
    refine fin_ret1 rfl ?_
    exact ⟨L, rfl, hR0, hs⟩
   ·cases h
 ·rcases o.his h with ⟨hi, _⟩ | ⟨k, hb, rfl, hk, hi⟩
  ·exfalso
   apply hbad
   unfold VS.may
   rw [hi]
   exact .inl (by simp)
  ·have hobt := o.file hk
   obtain ⟨r, hr, hfb⟩ := hobt
   have hobt := o.bnd ok hk hr
   obtain ⟨b1, b2, b3⟩ := hobt
   have hl := o.len_ hr
   have hdat := o.data_ hr
   have hpth := o.pth_ hr
   have hlt := (List.getElem?_eq_some_iff.1 hk).1
   have hfe : s.from_ hb.i hb.pl hb.mo = if hb.mo = 3 then r.x.length else hb.pl := by unfold VS.from_; rw [hl]
   have hfrom := fun {w} hw => from_spec (w0 := w) o hw hk hr hfb
   rw [← hfe] at hfrom
   have hwr : s.write (k : Int) b = (0, { s with F := s.F.set hb.i (r.p, overL r.x (s.from_ hb.i hb.pl hb.mo) b), H := s.H.set k (some (hb.i, s.from_ hb.i hb.pl hb.mo + b.length, hb.mo)), by_ := s.by_ + (s.from_ hb.i hb.pl hb.mo + b.length - r.x.length) }) := by
    unfold VS.write
    rw [if_neg hbad, hi]
    simp only [hdat, hpth, hl, Int.toNat_natCast]
   rw [hwr]
   have hm0 : s.may (k : Int) b.length = 0 := Classical.byContradiction fun h => hbad (.inl h)
   rw [hm0] at hmay
   have hbn : 0 < b.length := List.length_pos_iff.2 fun h => hbad (.inr h)
   have hobt : ∃ fr, s.from_ hb.i hb.pl hb.mo = fr := ⟨_, rfl⟩
   obtain ⟨fr, hfr⟩ := hobt
   have hmv : fr + b.length ≤ 1048576 ∧ (s.by_ : Int) + max 0 ((fr : Int) + b.length - r.x.length) ≤ s.qb := by
    have h1 := hm0
    unfold VS.may at h1
    rw [hi] at h1
    simp only [hl, hfr] at h1
    split at h1
    ·exact absurd h1 (by decide)
    ·split at h1
     ·omega
     ·split at h1
      ·omega
      ·split at h1
       ·exact absurd h1 (by decide)
       ·split at h1
        ·exact absurd h1 (by decide)
        ·omega
   rw [hfr] at hfrom ⊢
   have hqb := ok.qb
   obtain ⟨bl, cl, hvl⟩ : ∃ b c, vh = .slice (some ⟨b, 0, none⟩) Hs.length c := by
    have hobt := o.vh.some1 (by omega)
    obtain ⟨b, c, more, h1, _⟩ := hobt
    exact ⟨b, c, h1⟩
   have hcell : ∀ {w : World}, (∀ p ∈ L, w.heap[p.1]? = some p.2) → w.cell? ⟨bl, 0 + k * 1, none⟩ = some (.pointer (some ⟨hb.b, 0, none⟩)) := fun hw => by
    have h1 := o.hsl hw
    rw [hvl] at h1
    have hobt := h1.based (by omega)
    obtain ⟨b', o', c', e, hat⟩ := hobt
    cases e
    rw [Nat.mul_one]
    exact hat.cell (by rw [List.getElem?_map, hk]; rfl)
   have hfs := fun {w} hw => (o.at (w := w) hw).cell (j := 2) (v := .slice (some ⟨bl, 0, none⟩) Hs.length cl) (by rw [← hvl]; rfl)
   have hov := o.fs r (List.mem_of_getElem? hr)
   have hobt := hov.form
   obtain ⟨av, cv, hvf⟩ := hobt
   have hperm := o.openFH hk hr
   have hset := fun {v' x' Lv'} hv by' => o.setFH (v' := v') (x' := x') (Lv' := Lv') hk hr hfb (fr + b.length) by' hv
   have hc1 : Cells1 (u8s b) := Cells1.u8s b
   have hobt : ∃ S, L.map (·.1) = S := ⟨_, rfl⟩
   obtain ⟨S, hS⟩ := hobt
   rw [hS] at hs hsb ⊢
   have hobt : ∃ R, rest2 mf md Lh Fs Ds Hs k hb.i = R := ⟨_, rfl⟩
   obtain ⟨R, hRe⟩ := hobt
   rw [hRe] at hperm hset
   rw [hfb] at hperm hset
   rw [hvf] at hov hperm
   by_cases hgrow : r.x.length < fr + b.length
   ·have hobt : ∃ m, r.x.length + m = fr + b.length := ⟨fr + b.length - r.x.length, by omega⟩
    obtain ⟨m, hm⟩ := hobt
    have e1 : ((fr + b.length : Nat) : Int) - (r.x.length : Nat) = (m : Nat) := by omega
    have e2 : fr + b.length - r.x.length = m := by omega
    rw [e2]
    refine calls (n := 89) Tryz.func15 rfl rfl rfl ?_
    refine cQ <| cR <| wa rfl <| wZ <| cQ <| cQ <| cR <| wm rfl <| wm rfl <| wm rfl <| wV rfl (run_lenSl underlying38 rfl) ?_
    refine wE rfl (run_call en34 rfl rfl) (hmay hs.has) ?_
    rintro e w ⟨rfl, hq⟩
    refine ⟨_, rfl, ?_⟩
    replace hs := hs.callE hq
    refine wa rfl <| wZ <| cQ <| cR <| wm rfl <| wV rfl (run_bF (run_neq rfl rfl) (by exact fun h => h rfl)) <| wm rfl <| WL.yes rfl rfl rfl <| wm rfl <| WL.yes rfl rfl rfl <| wV rfl (run_lenSl underlying38 rfl) <| WL.yes rfl rfl rfl <| wV rfl (run_bF (run_eql rfl rfl) (by omega)) <| wV rfl (run_pickF rfl) <| wZ ?_
    refine cC rfl (fun h => ?_) (fun h => ?_)
    ·cases h
    repeat (first | refine cQ ?_ | refine cK ?_)
    refine cR <| wm rfl <| wn rfl rfl <| wV rfl (run_field (o' := 2) underlying61 rfl ty59 rfl rfl rfl) <| wV rfl (run_load1 ty59 rfl ((hfs hs.has))) <| wm rfl <| wV rfl (run_ixSlN underlying59 ty75 rfl rfl (by omega)) <| wV rfl (run_load1 ty75 rfl ((hcell hs.has))) <| wa rfl <| wZ <| cQ <| cR <| wm rfl ?_
    refine wE rfl (run_call en49 rfl rfl) (hfrom hs.has) ?_
    rintro e w ⟨rfl, hq⟩
    refine ⟨_, rfl, ?_⟩
    replace hs := hs.callE hq
    refine wa rfl <| wZ ?_
    have h5 := hs.perm hperm
    clear hs
    have hs := h5
    refine cQ <| cQ <| cR <| wm rfl <| wm rfl <| wV rfl (run_lenSl underlying38 rfl) <| wV rfl (run_add (c := ((fr + b.length : Nat) : Int)) rfl rfl (by omega) (by omega)) <| wm rfl <| wn rfl rfl <| wV rfl (run_field (o' := 0) underlying77 rfl ty62 rfl rfl rfl) <| wV rfl (run_load1 ty62 rfl (hs.c0 (v := .pointer (some ⟨r.b, 0, none⟩)) rfl)) <| wn rfl rfl <| wV rfl (run_field (o' := 1) underlying67 rfl ty38 rfl rfl rfl) <| wV rfl (run_load1 ty38 rfl (hs.c1 (v := .slice av r.x.length cv) rfl)) <| wV rfl (run_lenSl underlying38 rfl) <| wV rfl (run_sub (c := ((fr + b.length : Nat) : Int) - (r.x.length : Nat)) rfl rfl (by omega) (by omega)) <| wa rfl <| wZ ?_
    simp only [e1]
    refine cQ <| cR <| wm rfl <| wV rfl (run_bT (run_gtr rfl rfl) (by omega)) <| wZ ?_
    refine cC rfl (fun h => ?_) (fun h => ?_)
    ·refine cQ ?_
     refine CW.any (A := fun w => w.heap[hb.b]? = some (blk 77 [.pointer (some ⟨r.b, 0, none⟩), .int .i64 (hb.pl : Nat), .int .i64 (hb.mo : Nat)])) (C := fun w => w.heap[r.b]? = some (blk 67 [str r.p, .slice av r.x.length cv])) 12 16 mixedP rfl ?_
     replace hs := hs.drew
     refine AL.valA 0 rfl (by kernel_rfl) rfl (fun w hs => run_move) ?_
     refine AL.valA 1 rfl (by kernel_rfl) rfl (fun w hs => run_nilCheck rfl) ?_
     refine AL.valA 2 rfl (by kernel_rfl) rfl (fun w hs => run_field (o' := 0) underlying77 rfl ty62 rfl rfl rfl) ?_
     refine AL.valA 3 rfl (by kernel_rfl) rfl (fun w hs => run_load1 ty62 rfl ((by rw [cell_blk hs]; rfl))) ?_
     refine AL.valA 4 rfl (by kernel_rfl) rfl (fun w hs => run_move) ?_
     refine AL.valA 5 rfl (by kernel_rfl) rfl (fun w hs => run_nilCheck rfl) ?_
     refine AL.valA 6 rfl (by kernel_rfl) rfl (fun w hs => run_field (o' := 0) underlying77 rfl ty62 rfl rfl rfl) ?_
     refine AL.valA 7 rfl (by kernel_rfl) rfl (fun w hs => run_load1 ty62 rfl ((by rw [cell_blk hs]; rfl))) ?_
     refine AL.valA 8 rfl (by kernel_rfl) rfl (fun w hs => run_nilCheck rfl) ?_
     refine AL.valA 9 rfl (by kernel_rfl) rfl (fun w hs => run_field (o' := 1) underlying67 rfl ty38 rfl rfl rfl) ?_
     refine AL.val 10 rfl (by kernel_rfl) rfl (fun w hs => run_load1 ty38 rfl ((by rw [cell_blk hs]; rfl))) ?_
     refine AL.val 11 rfl (by kernel_rfl) rfl (fun w hs => run_move) ?_
     refine AL.one 12 (by kernel_rfl) rfl (by first | exact hs.hd | exact hs.tail.hd) (by first | exact hs.tail.hd | exact hs.hd) ?_
     refine WL.appendZO underlying38 underlying3 ty5 rfl rfl (by decide) rfl rfl (hov) (hs.perm perm_wr1) (by omega) (by omega) rfl (fun v60 Lv60 w hv60 hs => ?_)
     replace hs := hs.perm perm_wr2
     refine wZ ?_
     refine ⟨rfl, ?_⟩
     refine AL.relax (by kernel_rfl) ?_
     refine AL.valA 13 rfl (by kernel_rfl) rfl (fun w hs => run_nilCheck rfl) ?_
     refine AL.valA 14 rfl (by kernel_rfl) rfl (fun w hs => run_field (o' := 1) underlying67 rfl ty38 rfl rfl rfl) ?_
     refine AL.one 15 (by kernel_rfl) rfl (by first | exact hs.hd | exact hs.tail.hd) (trivial) ?_
     refine WL.store1 ty38 rfl rfl (hv60.one) hs (by first | (simp; done) | omega | (simp only [List.length_append, List.length_replicate, List.length_cons, List.length_nil, List.length_set]; omega) | (simp [Ent.cells, u8s]; done) | exact Nat.le_of_ble_eq_true rfl) (fun w hs => ?_)
     refine wZ ?_
     refine ⟨rfl, ?_⟩
     refine AL.end (by kernel_rfl) (by first | exact hs.hd | exact hs.tail.hd) (trivial) ?_
     replace hs := hs.swap
     refine cR <| wm rfl <| wn rfl rfl <| wV rfl (run_field (o' := 6) underlying61 rfl ty3 rfl rfl rfl) <| wV rfl (run_load1 ty3 rfl (hs.c2 (v := .int .i64 (s.by_ : Nat)) rfl)) <| wm rfl <| wV rfl (run_add (c := ((s.by_ + m : Nat) : Int)) rfl rfl (by omega) (by omega)) <| wn rfl rfl <| wV rfl (run_field (o' := 6) underlying61 rfl ty3 rfl rfl rfl) ?_
     refine WL.store1_2 ty3 rfl rfl (rfl) hs (by first | (simp; done) | omega | (simp only [List.length_append, List.length_replicate, List.length_cons, List.length_nil, List.length_set]; omega) | (simp [Ent.cells, u8s]; done) | exact Nat.le_of_ble_eq_true rfl) (fun w hs => ?_)
     refine wZ ?_
     have hobt : ∃ x1, r.x ++ List.replicate m 0 = x1 := ⟨_, rfl⟩
     obtain ⟨x1, hx1⟩ := hobt
     have hx1l : x1.length = r.x.length + m := by rw [← hx1]; simp
     have hv1 : OwnSl 5 1 v60 x1.length (u8s x1) Lv60 := by
      rw [hx1l, ← hx1, ← u8s_rep]
      exact hv60
     have hov1 : overL r.x fr b = x1.take fr ++ b ++ x1.drop (fr + b.length) := by rw [← hx1]; exact over_out hm
     have hobt : ∃ by1, s.by_ + m = by1 := ⟨_, rfl⟩
     obtain ⟨by1, hby⟩ := hobt
     replace hs : Step S ((hb.b, blk 77 [.pointer (some ⟨r.b, 0, none⟩), .int .i64 (hb.pl : Nat), .int .i64 (hb.mo : Nat)]) :: (r.b, blk 67 [str r.p, v60]) :: (bf, blk 61 (fsC mf md vh { s with by_ := by1 })) :: (Lv60 ++ R)) w0 w := by rw [← hby]; exact hs
     have hsm := hv1.some1 (by omega)
     obtain ⟨bd, cd, more, hq2, hqL, hcd⟩ := hsm
     subst hq2
     subst hqL
     rw [List.length_append] at hcd
     have hlm : (u8s x1 ++ more).length = x1.length + more.length := by simp [u8s]
     have hux : (u8s x1).length = x1.length := by simp [u8s]
     refine cQ <| cR <| wm rfl <| wn rfl rfl <| wV rfl (run_field (o' := 0) underlying77 rfl ty62 rfl rfl rfl) <| wV rfl (run_load1 ty62 rfl (hs.c0 (v := .pointer (some ⟨r.b, 0, none⟩)) rfl)) <| wn rfl rfl <| wV rfl (run_field (o' := 1) underlying67 rfl ty38 rfl rfl rfl) <| wV rfl (run_load1 ty38 rfl (hs.c1 (v := .slice (some ⟨bd, 0, none⟩) x1.length cd) rfl)) <| wm rfl <| wV rfl (run_sliceSlP  underlying38 ty5 rfl rfl rfl rfl (by simp) (by omega) (by omega) (by omega) (by omega)) <| wm rfl ?_
     refine WL.copy underlying38 ty5 rfl rfl (hs.front [_, _, _]) (hsb hs) (hc1) (by first | omega | exact Nat.le_of_ble_eq_true rfl | (simp [Ent.cells, u8s]; done)) (fun k hk => by cases hk; rfl) (fun w hs => ⟨fun k hk => ?_, fun h => by cases h⟩)
     cases hk
     refine wZ ?_
     replace hs : Step S ((bd, blk 5 (splice (u8s x1 ++ more) (0 + fr * 1) ((u8s b).take (min b.length (x1.length - fr) * 1)))) :: (hb.b, blk 77 [.pointer (some ⟨r.b, 0, none⟩), .int .i64 (hb.pl : Nat), .int .i64 (hb.mo : Nat)]) :: (r.b, blk 67 [str r.p, .slice (some ⟨bd, 0, none⟩) x1.length cd]) :: (bf, blk 61 (fsC mf md vh { s with by_ := by1 })) :: R) w0 w := hs
     rw [show (u8s b).take (min b.length (x1.length - fr) * 1) = u8s b by rw [List.take_of_length_le]; simp [u8s]; omega, Nat.zero_add, Nat.mul_one, splice_over x1 b [] fr (by omega)] at hs
     have hs2 := hs.perm (L' := (hb.b, blk 77 [.pointer (some ⟨r.b, 0, none⟩), .int .i64 (hb.pl : Nat), .int .i64 (hb.mo : Nat)]) :: (r.b, blk 67 [str r.p, .slice (some ⟨bd, 0, none⟩) x1.length cd]) :: (bf, blk 61 (fsC mf md vh { s with by_ := by1 })) :: ([(bd, blk 5 (u8s (x1.take fr ++ b ++ x1.drop (fr + b.length)) ++ more))] ++ R)) ((List.perm_middle (l₁ := [_, _, _])).symm)
     clear hs
     have hs := hs2
     refine cQ <| cR <| wm rfl <| wm rfl <| wm rfl <| wV rfl (run_lenSl underlying38 rfl) <| wV rfl (run_add (c := ((fr + b.length : Nat) : Int)) rfl rfl (by omega) (by omega)) <| wn rfl rfl <| wV rfl (run_field (o' := 1) underlying77 rfl ty3 rfl rfl rfl) ?_
     refine WL.store1 ty3 rfl rfl (rfl) hs (by first | (simp; done) | omega | (simp only [List.length_append, List.length_replicate, List.length_cons, List.length_nil, List.length_set]; omega) | (simp [Ent.cells, u8s]; done) | exact Nat.le_of_ble_eq_true rfl) (fun w hs => ?_)
     refine wZ <| cQ <| cR <| wa rfl <| wZ ?_
     refine CW.ret ?_
     refine fin_ret1 rfl ?_
     have hxl : (x1.take fr ++ b ++ x1.drop (fr + b.length)).length = x1.length := by simp; omega
     have hown : OwnSl 5 1 (.slice (some ⟨bd, 0, none⟩) x1.length cd) (x1.take fr ++ b ++ x1.drop (fr + b.length)).length (u8s (x1.take fr ++ b ++ x1.drop (fr + b.length))) [(bd, blk 5 (u8s (x1.take fr ++ b ++ x1.drop (fr + b.length)) ++ more))] := by
      refine ⟨by simp [u8s], .inr ⟨bd, cd, more, by rw [hxl], rfl, ?_⟩⟩
      rw [List.length_append, ← hcd, hux]
      simp only [u8s, List.length_map, hxl]
     have hobt := hset hown by1
     obtain ⟨L', hL', hp⟩ := hobt
     exact ⟨L', rfl, by rw [hby, hov1]; exact hL', hs.perm hp⟩
    ·cases h
   ·have e2 : fr + b.length - r.x.length = 0 := by omega
    rw [e2]
    refine calls (n := 89) Tryz.func15 rfl rfl rfl ?_
    refine cQ <| cR <| wa rfl <| wZ <| cQ <| cQ <| cR <| wm rfl <| wm rfl <| wm rfl <| wV rfl (run_lenSl underlying38 rfl) ?_
    refine wE rfl (run_call en34 rfl rfl) (hmay hs.has) ?_
    rintro e w ⟨rfl, hq⟩
    refine ⟨_, rfl, ?_⟩
    replace hs := hs.callE hq
    refine wa rfl <| wZ <| cQ <| cR <| wm rfl <| wV rfl (run_bF (run_neq rfl rfl) (by exact fun h => h rfl)) <| wm rfl <| WL.yes rfl rfl rfl <| wm rfl <| WL.yes rfl rfl rfl <| wV rfl (run_lenSl underlying38 rfl) <| WL.yes rfl rfl rfl <| wV rfl (run_bF (run_eql rfl rfl) (by omega)) <| wV rfl (run_pickF rfl) <| wZ ?_
    refine cC rfl (fun h => ?_) (fun h => ?_)
    ·cases h
    repeat (first | refine cQ ?_ | refine cK ?_)
    refine cR <| wm rfl <| wn rfl rfl <| wV rfl (run_field (o' := 2) underlying61 rfl ty59 rfl rfl rfl) <| wV rfl (run_load1 ty59 rfl ((hfs hs.has))) <| wm rfl <| wV rfl (run_ixSlN underlying59 ty75 rfl rfl (by omega)) <| wV rfl (run_load1 ty75 rfl ((hcell hs.has))) <| wa rfl <| wZ <| cQ <| cR <| wm rfl ?_
    refine wE rfl (run_call en49 rfl rfl) (hfrom hs.has) ?_
    rintro e w ⟨rfl, hq⟩
    refine ⟨_, rfl, ?_⟩
    replace hs := hs.callE hq
    refine wa rfl <| wZ ?_
    have h5 := hs.perm hperm
    clear hs
    have hs := h5
    refine cQ <| cQ <| cR <| wm rfl <| wm rfl <| wV rfl (run_lenSl underlying38 rfl) <| wV rfl (run_add (c := ((fr + b.length : Nat) : Int)) rfl rfl (by omega) (by omega)) <| wm rfl <| wn rfl rfl <| wV rfl (run_field (o' := 0) underlying77 rfl ty62 rfl rfl rfl) <| wV rfl (run_load1 ty62 rfl (hs.c0 (v := .pointer (some ⟨r.b, 0, none⟩)) rfl)) <| wn rfl rfl <| wV rfl (run_field (o' := 1) underlying67 rfl ty38 rfl rfl rfl) <| wV rfl (run_load1 ty38 rfl (hs.c1 (v := .slice av r.x.length cv) rfl)) <| wV rfl (run_lenSl underlying38 rfl) <| wV rfl (run_sub (c := ((fr + b.length : Nat) : Int) - (r.x.length : Nat)) rfl rfl (by omega) (by omega)) <| wa rfl <| wZ <| cQ <| cR <| wm rfl <| wV rfl (run_bF (run_gtr rfl rfl) (by omega)) <| wZ ?_
    refine cC rfl (fun h => ?_) (fun h => ?_)
    ·cases h
    have hobt : ∃ x1, r.x = x1 := ⟨_, rfl⟩
    obtain ⟨x1, hx1⟩ := hobt
    have hov1 : overL r.x fr b = x1.take fr ++ b ++ x1.drop (fr + b.length) := by rw [← hx1]; exact over_in (by omega)
    have hobt : ∃ by1, s.by_ + 0 = by1 := ⟨_, rfl⟩
    obtain ⟨by1, hby⟩ := hobt
    replace hs : Step S ((hb.b, blk 77 [.pointer (some ⟨r.b, 0, none⟩), .int .i64 (hb.pl : Nat), .int .i64 (hb.mo : Nat)]) :: (r.b, blk 67 [str r.p, .slice av x1.length cv]) :: (bf, blk 61 (fsC mf md vh { s with by_ := by1 })) :: (r.Lv ++ R)) w0 w := by rw [← hby, ← hx1]; exact hs
    have hv1 := hov
    rw [hx1] at hv1
    have hx1l : x1.length = r.x.length := by rw [hx1]
    have hobt : ∃ Lq, r.Lv = Lq := ⟨_, rfl⟩
    obtain ⟨Lq, hLq⟩ := hobt
    rw [hLq] at hs hv1
    have hobt : ∃ v1, Value.slice av x1.length cv = v1 := ⟨_, rfl⟩
    obtain ⟨v1, hv1e⟩ := hobt
    rw [hv1e] at hs hv1
    clear hv1e
    have hsm := hv1.some1 (by omega)
    obtain ⟨bd, cd, more, hq2, hqL, hcd⟩ := hsm
    subst hq2
    subst hqL
    rw [List.length_append] at hcd
    have hlm : (u8s x1 ++ more).length = x1.length + more.length := by simp [u8s]
    have hux : (u8s x1).length = x1.length := by simp [u8s]
    repeat (first | refine cQ ?_ | refine cK ?_)
    refine cR <| wm rfl <| wn rfl rfl <| wV rfl (run_field (o' := 0) underlying77 rfl ty62 rfl rfl rfl) <| wV rfl (run_load1 ty62 rfl (hs.c0 (v := .pointer (some ⟨r.b, 0, none⟩)) rfl)) <| wn rfl rfl <| wV rfl (run_field (o' := 1) underlying67 rfl ty38 rfl rfl rfl) <| wV rfl (run_load1 ty38 rfl (hs.c1 (v := .slice (some ⟨bd, 0, none⟩) x1.length cd) rfl)) <| wm rfl <| wV rfl (run_sliceSlP  underlying38 ty5 rfl rfl rfl rfl (by simp) (by omega) (by omega) (by omega) (by omega)) <| wm rfl ?_
    refine WL.copy underlying38 ty5 rfl rfl (hs.front [_, _, _]) (hsb hs) (hc1) (by first | omega | exact Nat.le_of_ble_eq_true rfl | (simp [Ent.cells, u8s]; done)) (fun k hk => by cases hk; rfl) (fun w hs => ⟨fun k hk => ?_, fun h => by cases h⟩)
    cases hk
    refine wZ ?_
    replace hs : Step S ((bd, blk 5 (splice (u8s x1 ++ more) (0 + fr * 1) ((u8s b).take (min b.length (x1.length - fr) * 1)))) :: (hb.b, blk 77 [.pointer (some ⟨r.b, 0, none⟩), .int .i64 (hb.pl : Nat), .int .i64 (hb.mo : Nat)]) :: (r.b, blk 67 [str r.p, .slice (some ⟨bd, 0, none⟩) x1.length cd]) :: (bf, blk 61 (fsC mf md vh { s with by_ := by1 })) :: R) w0 w := hs
    rw [show (u8s b).take (min b.length (x1.length - fr) * 1) = u8s b by rw [List.take_of_length_le]; simp [u8s]; omega, Nat.zero_add, Nat.mul_one, splice_over x1 b [] fr (by omega)] at hs
    have hs2 := hs.perm (L' := (hb.b, blk 77 [.pointer (some ⟨r.b, 0, none⟩), .int .i64 (hb.pl : Nat), .int .i64 (hb.mo : Nat)]) :: (r.b, blk 67 [str r.p, .slice (some ⟨bd, 0, none⟩) x1.length cd]) :: (bf, blk 61 (fsC mf md vh { s with by_ := by1 })) :: ([(bd, blk 5 (u8s (x1.take fr ++ b ++ x1.drop (fr + b.length)) ++ more))] ++ R)) ((List.perm_middle (l₁ := [_, _, _])).symm)
    clear hs
    have hs := hs2
    refine cQ <| cR <| wm rfl <| wm rfl <| wm rfl <| wV rfl (run_lenSl underlying38 rfl) <| wV rfl (run_add (c := ((fr + b.length : Nat) : Int)) rfl rfl (by omega) (by omega)) <| wn rfl rfl <| wV rfl (run_field (o' := 1) underlying77 rfl ty3 rfl rfl rfl) ?_
    refine WL.store1 ty3 rfl rfl (rfl) hs (by first | (simp; done) | omega | (simp only [List.length_append, List.length_replicate, List.length_cons, List.length_nil, List.length_set]; omega) | (simp [Ent.cells, u8s]; done) | exact Nat.le_of_ble_eq_true rfl) (fun w hs => ?_)
    refine wZ <| cQ <| cR <| wa rfl <| wZ ?_
    refine CW.ret ?_
    refine fin_ret1 rfl ?_
    have hxl : (x1.take fr ++ b ++ x1.drop (fr + b.length)).length = x1.length := by simp; omega
    have hown : OwnSl 5 1 (.slice (some ⟨bd, 0, none⟩) x1.length cd) (x1.take fr ++ b ++ x1.drop (fr + b.length)).length (u8s (x1.take fr ++ b ++ x1.drop (fr + b.length))) [(bd, blk 5 (u8s (x1.take fr ++ b ++ x1.drop (fr + b.length)) ++ more))] := by
     refine ⟨by simp [u8s], .inr ⟨bd, cd, more, by rw [hxl], rfl, ?_⟩⟩
     rw [List.length_append, ← hcd, hux]
     simp only [u8s, List.length_map, hxl]
    have hobt := hset hown by1
    obtain ⟨L', hL', hp⟩ := hobt
    exact ⟨L', rfl, by rw [hby, hov1]; exact hL', hs.perm hp⟩
end
end Go.Gx
