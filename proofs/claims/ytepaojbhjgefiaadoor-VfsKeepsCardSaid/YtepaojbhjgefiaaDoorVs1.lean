/- Files in memory (vfs): what the program's FS stands for; its blocks. -/
import Derived.Test.YtepaojbhjgefiaaDoorMapS
import Derived.Test.YtepaojbhjgefiaaDoorQTail
import Derived.Test.YtepaojbhjgefiaaDoorAny
import Derived.Test.YtepaojbhjgefiaaDoorTab
namespace Go.Gx
open Go.Proofs
set_option linter.unusedVariables false
set_option linter.unusedSimpArgs false
set_option maxRecDepth 100000
/-- Files, directories, handles, without addresses. -/
structure VS where
  F : List (List UInt8 × List UInt8)
  D : List (List UInt8 × Nat)
  H : List (Option (Nat × Nat × Nat))
  qb : Int
  qf : Int
  qo : Int
  by_ : Nat
  op : Nat
/-- A file, with its blocks. -/
structure FB where
  p : List UInt8
  b : Nat
  v : Value
  x : List UInt8
  Lv : List (Nat × Obj)
/-- A directory. -/
structure DB where
  p : List UInt8
  b : Nat
  n : Nat
/-- A handle that is open: its block, its file's block; the file's number, the place, the mode. -/
structure HB where
  b : Nat
  fb : Nat
  i : Nat
  pl : Nat
  mo : Nat
def FB.own (r : FB) : List (Nat × Obj) := (r.b, blk 89 [str r.p, r.v]) :: r.Lv
def DB.own (r : DB) : List (Nat × Obj) := [(r.b, blk 77 [str r.p, .int .i64 (r.n : Nat)])]
def HB.own : Option HB → List (Nat × Obj)
  | none => []
  | some h => [(h.b, blk 93 [.pointer (some ⟨h.fb, 0, none⟩), .int .i64 (h.pl : Nat), .int .i64 (h.mo : Nat)])]
def HB.val : Option HB → Value
  | none => .pointer none
  | some h => .pointer (some ⟨h.b, 0, none⟩)
def mapF : List FB → Nat → List SEnt
  | [], _ => []
  | r :: l, k => (r.p, .pointer (some ⟨r.b, 0, none⟩), k) :: mapF l (k + 1)
def mapDi : List DB → Nat → List SEnt
  | [], _ => []
  | r :: l, k => (r.p, .pointer (some ⟨r.b, 0, none⟩), k) :: mapDi l (k + 1)
def fsC (mf md : Nat) (vh : Value) (s : VS) : List Value := [.map (some mf), .map (some md), vh, .int .i64 s.qb, .int .i64 s.qf, .int .i64 s.qo, .int .i64 (s.by_ : Nat), .int .i64 (s.op : Nat)]
structure VOpen (bf : Nat) (s : VS) (L : List (Nat × Obj)) (mf md : Nat) (vh : Value) (Lh : List (Nat × Obj)) (Fs : List FB) (Ds : List DB) (Hs : List (Option HB)) : Prop where
  L : L = (bf, blk 81 (fsC mf md vh s)) :: (mf, mapS (mapF Fs 0) Fs.length) :: (md, mapS (mapDi Ds 0) Ds.length) :: (Lh ++ (Fs.flatMap FB.own ++ (Ds.flatMap DB.own ++ Hs.flatMap HB.own)))
  vh : OwnSl 91 1 vh Hs.length (Hs.map HB.val) Lh
  fs : ∀ r ∈ Fs, OwnSl 5 1 r.v r.x.length (u8s r.x) r.Lv
  hs : ∀ h, some h ∈ Hs → ∃ r, Fs[h.i]? = some r ∧ h.fb = r.b
  F : Fs.map (fun r => (r.p, r.x)) = s.F
  D : Ds.map (fun r => (r.p, r.n)) = s.D
  H : Hs.map (Option.map fun h => (h.i, h.pl, h.mo)) = s.H
/-- The FS at bf, with its own blocks L, stands for s. -/
def VRep (bf : Nat) (s : VS) (L : List (Nat × Obj)) : Prop := ∃ mf md vh Lh Fs Ds Hs, VOpen bf s L mf md vh Lh Fs Ds Hs
/-- How it is kept. -/
structure VS.Ok (s : VS) : Prop where
  h : s.H.length ≤ 1000
  f : s.F.length ≤ 65536
  d : s.D.length ≤ 65536
  x : ∀ e ∈ s.F, e.2.length ≤ 1048576
  at_ : ∀ i pl mo, some (i, pl, mo) ∈ s.H → pl ≤ 1048576 ∧ mo ≤ 3
  qb : -9223372036854775808 ≤ s.qb ∧ s.qb ≤ 67108864
  qf : -9223372036854775808 ≤ s.qf ∧ s.qf ≤ 65535
  qo : -9223372036854775808 ≤ s.qo ∧ s.qo ≤ 64
  by_ : s.by_ ≤ 67108864
  op : s.op ≤ 1000
section
variable {α β : Type}
theorem flat_open {f : α → List β} : ∀ {l : List α} {i : Nat} {a : α}, l[i]? = some a → (l.flatMap f).Perm (f a ++ (l.eraseIdx i).flatMap f)
  | [], i, a, h => by simp at h
  | c :: l, 0, a, h => by
    simp only [List.getElem?_cons_zero, Option.some.injEq] at h
    subst h
    simp
  | c :: l, i + 1, a, h => by
    rw [List.getElem?_cons_succ] at h
    rw [List.flatMap_cons, List.eraseIdx_cons_succ, List.flatMap_cons]
    exact ((flat_open h).append_left _).trans (List.perm_append_comm_assoc _ _ _)
theorem flat_shut {f : α → List β} {l : List α} {i : Nat} {a : α} (h : i < l.length) : (f a ++ (l.eraseIdx i).flatMap f).Perm ((l.set i a).flatMap f) := by
  have h1 := flat_open (f := f) (l := l.set i a) (i := i) (a := a) (by rw [List.getElem?_set_self h])
  rw [List.eraseIdx_set_eq] at h1
  exact h1.symm
theorem flat_mem {f : α → List β} {l : List α} {i : Nat} {a : α} {x : β} (h : l[i]? = some a) (hx : x ∈ f a) : x ∈ l.flatMap f := List.mem_flatMap.2 ⟨a, List.mem_of_getElem? h, hx⟩
end
section
variable {bf mf md : Nat} {s : VS} {L Lh : List (Nat × Obj)} {vh : Value} {Fs : List FB} {Ds : List DB} {Hs : List (Option HB)} {w : World}
theorem OwnSl.slW {E sz : Nat} {v : Value} {k : Nat} {xs : List Value} {Lv : List (Nat × Obj)} {w : World} (h : OwnSl E sz v k xs Lv) (hw : ∀ p ∈ Lv, w.heap[p.1]? = some p.2) : Sl w sz v k xs := by
  obtain ⟨hl, ⟨rfl, rfl, rfl⟩ | ⟨b, cap, more, rfl, rfl, hc⟩⟩ := h
  · exact ⟨hl, .inl ⟨none, 0, rfl, rfl⟩⟩
  · exact .mk hl (At.of_blk (hw (b, blk E (xs ++ more)) (by simp))).left
theorem VOpen.at (o : VOpen bf s L mf md vh Lh Fs Ds Hs) (hw : ∀ p ∈ L, w.heap[p.1]? = some p.2) : At w bf 0 (fsC mf md vh s) := At.of_blk (hw (bf, blk 81 (fsC mf md vh s)) (by rw [o.L]; simp))
theorem VOpen.mf_ (o : VOpen bf s L mf md vh Lh Fs Ds Hs) (hw : ∀ p ∈ L, w.heap[p.1]? = some p.2) : w.heap[mf]? = some (mapS (mapF Fs 0) Fs.length) := hw (mf, mapS (mapF Fs 0) Fs.length) (by rw [o.L]; simp)
theorem VOpen.md_ (o : VOpen bf s L mf md vh Lh Fs Ds Hs) (hw : ∀ p ∈ L, w.heap[p.1]? = some p.2) : w.heap[md]? = some (mapS (mapDi Ds 0) Ds.length) := hw (md, mapS (mapDi Ds 0) Ds.length) (by rw [o.L]; simp)
theorem VOpen.hsl (o : VOpen bf s L mf md vh Lh Fs Ds Hs) (hw : ∀ p ∈ L, w.heap[p.1]? = some p.2) : Sl w 1 vh Hs.length (Hs.map HB.val) := o.vh.slW fun p hp => hw p (by rw [o.L]; simp [hp])
theorem VOpen.hat (o : VOpen bf s L mf md vh Lh Fs Ds Hs) (hw : ∀ p ∈ L, w.heap[p.1]? = some p.2) {i : Nat} {h : HB} (hi : Hs[i]? = some (some h)) : At w h.b 0 [.pointer (some ⟨h.fb, 0, none⟩), .int .i64 (h.pl : Nat), .int .i64 (h.mo : Nat)] := by
  have hm : (h.b, blk 93 [.pointer (some ⟨h.fb, 0, none⟩), .int .i64 (h.pl : Nat), .int .i64 (h.mo : Nat)]) ∈ Hs.flatMap HB.own := flat_mem hi (by simp [HB.own])
  exact At.of_blk (hw (h.b, blk 93 [.pointer (some ⟨h.fb, 0, none⟩), .int .i64 (h.pl : Nat), .int .i64 (h.mo : Nat)]) (by rw [o.L]; simp only [List.mem_cons, List.mem_append]; exact .inr (.inr (.inr (.inr (.inr (.inr hm)))))))
theorem VOpen.fat (o : VOpen bf s L mf md vh Lh Fs Ds Hs) (hw : ∀ p ∈ L, w.heap[p.1]? = some p.2) {i : Nat} {r : FB} (hi : Fs[i]? = some r) : At w r.b 0 [str r.p, r.v] ∧ Sl w 1 r.v r.x.length (u8s r.x) := by
  have hsub : ∀ p ∈ r.own, p ∈ L := fun p hp => by
    have hm : p ∈ Fs.flatMap FB.own := flat_mem hi hp
    rw [o.L]
    simp only [List.mem_cons, List.mem_append]
    exact .inr (.inr (.inr (.inr (.inl hm))))
  exact ⟨At.of_blk (hw (r.b, blk 89 [str r.p, r.v]) (hsub _ (by simp [FB.own]))), (o.fs r (List.mem_of_getElem? hi)).slW fun p hp => hw p (hsub p (by simp [FB.own, hp]))⟩
/-- The handle of a number, if it is open. -/
def VS.is (s : VS) (h : Int) : Option (Nat × Nat × Nat) := if 0 ≤ h then (s.H[h.toNat]?).join else none
end
end Go.Gx
