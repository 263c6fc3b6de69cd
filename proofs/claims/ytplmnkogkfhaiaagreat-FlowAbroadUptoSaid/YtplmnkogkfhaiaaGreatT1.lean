/- Rules of my own for walking: a frame as a function from slots to values, one rule an operation and a form of code; no program in sight. Memory as a list of owned blocks beside what is only read; what one operation does. No program in sight. What one operation does, an operation a law: in the words o -/
import Derived.WalkKit
import Derived.Deep.Quiet
import Derived.WalkLawsBesides
import Derived.WalkSpells
import Derived.Test.YtplmnkogkfhaiaaGreatProg
import Derived.Orders
set_option linter.unusedVariables false
set_option linter.unusedSimpArgs false
set_option maxRecDepth 100000
namespace Go.Gx
abbrev Slots:=Nat→Value
def upd (f:Slots) (d:Nat) (v:Value):Slots:=fun t=>bif Nat.beq t d then v else f t
def updL (f:Slots):List (Nat×Value)→Slots
 | []=>f
 | p::L=>upd (updL f L) p.1 p.2
def ev (f:Slots):Operand→Value
 | .tmp t=>f t
 | .const v=>v
 | .global g=>.pointer (some ⟨g,0,none⟩)
 | .func F=>.func (.func F) #[] #[]
theorem upd_same (f:Slots) (d:Nat) (v:Value):upd f d v d=v:=by simp[upd]
theorem upd_of (f:Slots){d:Nat}{v:Value} (h:f d=v):upd f d v=f:=by
 funext t
 unfold upd
 cases hb:Nat.beq t d with
 | true=>rw[Nat.eq_of_beq_eq_true hb];exact h.symm
 | false=>rfl
def Holds (f:Slots):List (Nat×Value)→Prop
 | []=>True
 | p::L=>f p.1=p.2∧Holds f L
theorem Holds.updL{f:Slots}:∀{L:List (Nat×Value)},Holds f L→Gx.updL f L=f
 | [],_=>rfl
 | p::L,h=>by
  show upd (Gx.updL f L) p.1 p.2=f
  rw[Holds.updL h.2]
  exact upd_of f h.1
theorem Holds.chain{f:Slots}{L:List (Nat×Value)} (h:Holds f L):∃g,f=Gx.updL g L:=⟨f,h.updL.symm⟩
structure Rep (n:Nat) (f:Slots) (ds:List Deferred) (a:Act):Prop where
 size:a.tmps.size=n
 get:∀t,a.tmps.getD t undef=f t
 defers:a.defers=ds
theorem Rep.eval{n:Nat}{f:Slots}{ds:List Deferred}{a:Act} (h:Rep n f ds a):a.eval=ev f:=by
 funext x
 cases x with
 | tmp t=>exact h.get t
 | const v=>rfl
 | global g=>rfl
 | func F=>rfl
theorem getD_set{α:Type} (xs:Array α) (d t:Nat) (v u:α) (hd:d<xs.size):(xs.setIfInBounds d v).getD t u=bif Nat.beq t d then v else xs.getD t u:=by
 simp only[Array.getD_eq_getD_getElem?]
 cases hb:Nat.beq t d with
 | true=>
  have:=Nat.eq_of_beq_eq_true hb
  subst this
  simp[hd]
 | false=>
  have hne:d≠t:=fun e=>by subst e;simp at hb
  simp[Array.getElem?_setIfInBounds_ne hne]
theorem Rep.put{n:Nat}{f:Slots}{ds:List Deferred}{a:Act} (h:Rep n f ds a){d:Nat} (hd:Nat.blt d n=true) (v:Value):Rep n (upd f d v) ds (a.put (some d) v):=by
 have hd':d<a.tmps.size:=by rw[h.size];simpa[Nat.blt_eq] using hd
 refine⟨by simp[Act.put,h.size],fun t=>?_,h.defers⟩
 show(a.tmps.setIfInBounds d v).getD t undef=_
 rw[getD_set _ _ _ _ _ hd']
 simp only[upd,h.get]
abbrev Post:=Exit→Slots→List Deferred→World→Prop
def lift (n:Nat) (Q:Post):Exit→Act→World→Prop:=fun e a w=>∃f ds,Rep n f ds a∧Q e f ds w
structure WL (P:Program) (ops:Array Oper) (Q:Post) (n:Nat) (l:List Oper) (f:Slots) (ds:List Deferred) (w:World):Prop where
 out:∀a,Rep n f ds a→wpList P ops (lift n Q) l a w
structure CW (P:Program) (c:Code) (Q:Post) (n:Nat) (f:Slots) (ds:List Deferred) (w:World):Prop where
 out:∀a,Rep n f ds a→c.wp P (lift n Q) a w
section ops
variable{P:Program}{ops:Array Oper}{Q:Post}{n:Nat}{rest:List Oper}{f:Slots}{ds:List Deferred}{w w':World}{o:Op}{ty:TypeId}{pos:String}{af:Array Edge}
theorem WL.nil (h:Q .normal f ds w):WL P ops Q n [] f ds w:=⟨fun a ha=>⟨f,ds,ha,h⟩⟩
theorem WL.val{d:Nat}{v:Value} (hd:Nat.blt d n=true) (hrun:(execOp (ev f) ⟨some d,o,ty,pos,af,none⟩).run P w=.ok (.value v) w')
  (h:WL P ops Q n rest (upd f d v) ds w'):WL P ops Q n (⟨some d,o,ty,pos,af,none⟩::rest) f ds w:=
 ⟨fun a ha=>wpList_plain rfl fun K hK=>by
  unfold Oper.wp
  rw[ha.eval,hrun]
  exact hK _ _ (h.out _ (ha.put hd v))⟩
theorem WL.drop{v:Value} (hrun:(execOp (ev f) ⟨none,o,ty,pos,af,none⟩).run P w=.ok (.value v) w')
  (h:WL P ops Q n rest f ds w'):WL P ops Q n (⟨none,o,ty,pos,af,none⟩::rest) f ds w:=
 ⟨fun a ha=>wpList_plain rfl fun K hK=>by
  unfold Oper.wp
  rw[ha.eval,hrun]
  exact hK _ _ (h.out _ ha)⟩
theorem WL.skip (hrun:(execOp (ev f) ⟨none,o,ty,pos,af,none⟩).run P w=.ok .skip w')
  (h:WL P ops Q n rest f ds w'):WL P ops Q n (⟨none,o,ty,pos,af,none⟩::rest) f ds w:=
 ⟨fun a ha=>wpList_plain rfl fun K hK=>by
  unfold Oper.wp
  rw[ha.eval,hrun]
  exact hK _ _ (h.out _ ha)⟩
theorem WL.enter{d:Nat}{F:FuncId}{args:Array Value}{R:Ending→World→Prop} (hd:Nat.blt d n=true)
  (hrun:(execOp (ev f) ⟨some d,o,ty,pos,af,none⟩).run P w=.ok (.enter F args) w) (hc:Calls P F args w R)
  (h:∀e w',R e w'→∃v,e=.returned v∧WL P ops Q n rest (upd f d v) ds w'):WL P ops Q n (⟨some d,o,ty,pos,af,none⟩::rest) f ds w:=
 ⟨fun a ha=>wpList_plain rfl fun K hK=>by
  unfold Oper.wp
  rw[ha.eval,hrun]
  refine hc.mono fun e w' hR=>?_
  have ob:=h e w' hR
  obtain⟨v,rfl,hw⟩:=ob
  exact hK _ _ (hw.out _ (ha.put hd v))⟩
theorem WL.panic{d:Option Nat}{v:Value} (hrun:(execOp (ev f) ⟨d,o,ty,pos,af,none⟩).run P w=.halt (.panic v) w')
  (h:Q (.panic [{ v,recovered:=false }]) f ds w'):WL P ops Q n (⟨d,o,ty,pos,af,none⟩::rest) f ds w:=
 ⟨fun a ha=>wpList_plain rfl fun K hK=>by
  unfold Oper.wp
  rw[ha.eval,hrun]
  exact⟨f,ds,ha,h⟩⟩
theorem WL.defer{c:Deferred} (hrun:(execOp (ev f) ⟨none,o,ty,pos,af,none⟩).run P w=.ok (.defer c) w')
  (h:WL P ops Q n rest f (c::ds) w'):WL P ops Q n (⟨none,o,ty,pos,af,none⟩::rest) f ds w:=
 ⟨fun a ha=>wpList_plain rfl fun K hK=>by
  unfold Oper.wp
  rw[ha.eval,hrun]
  exact hK _ _ (h.out _ ⟨ha.size,ha.get,by simp[Act.put,ha.defers]⟩)⟩
theorem yielded_rep{a:Act} (ha:Rep n f ds a){j dj:Nat} (hj:(ops[j]?).bind (·.dst)=some dj) (hdj:Nat.blt dj n=true) :
  yielded ops a.tmps j=match f dj with | .bool b=>some b | _=>none:=by
 have hlt:dj<a.tmps.size:=by rw[ha.size];simpa[Nat.blt_eq] using hdj
 have hg:a.tmps[dj]?=some (f dj):=by
  have:=ha.get dj
  simp only[Array.getD_eq_getD_getElem?,Array.getElem?_eq_getElem hlt,Option.getD_some] at this
  rw[Array.getElem?_eq_getElem hlt,this]
 simp only[yielded,hj,Option.bind_some,hg]
 cases f dj <;> rfl
theorem WL.yes{d:Option Nat}{j dj:Nat}{want:Bool} (hj:(ops[j]?).bind (·.dst)=some dj) (hdj:Nat.blt dj n=true) (hv:f dj=.bool want)
  (h:WL P ops Q n (⟨d,o,ty,pos,af,none⟩::rest) f ds w):WL P ops Q n (⟨d,o,ty,pos,af,some (j,want)⟩::rest) f ds w:=
 ⟨fun a ha=>by
  have hy:=yielded_rep (ops:=ops) ha hj hdj
  rw[hv] at hy
  have:=h.out a ha
  simp only[wpList,Region.wanted,hy,beq_self_eq_true,if_true] at this⊢
  exact this⟩
theorem WL.no{d:Nat}{j dj:Nat}{want:Bool} (hd:Nat.blt d n=true) (hj:(ops[j]?).bind (·.dst)=some dj) (hdj:Nat.blt dj n=true)
  (hv:f dj=.bool (!want)∨f dj=undef)
  (h:WL P ops Q n rest (upd f d undef) ds w):WL P ops Q n (⟨some d,o,ty,pos,af,some (j,want)⟩::rest) f ds w:=
 ⟨fun a ha=>by
  have hy:=yielded_rep (ops:=ops) ha hj hdj
  have hne:(yielded ops a.tmps j == some want)=false:=by
   rw[hy]
   rcases hv with hv | hv
   ·rw[hv];cases want <;> rfl
   ·rw[hv];rfl
  simp only[wpList,Region.wanted,hne,Bool.false_eq_true,if_false]
  exact h.out _ (ha.put hd undef)⟩
end ops
section code
variable{P:Program}{Q:Post}{n:Nat}{f:Slots}{ds:List Deferred}{w:World}
def thenC (K:Slots→List Deferred→World→Prop) (Q:Post):Post
 | .normal,f,ds,w=>K f ds w
 | .exit id,f,ds,w=>Q (.exit id) f ds w
 | .goto l,f,ds,w=>Q (.goto l) f ds w
 | .ret,f,ds,w=>Q .ret f ds w
 | .panic ch,f,ds,w=>Q (.panic ch) f ds w
 | .outgrown,f,ds,w=>Q .outgrown f ds w
def inB (id:Nat) (Q:Post):Post
 | .normal,f,ds,w=>Q .normal f ds w
 | .exit id',f,ds,w=>bif Nat.beq id' id then Q .normal f ds w else Q (.exit id') f ds w
 | .goto l,f,ds,w=>Q (.goto l) f ds w
 | .ret,f,ds,w=>Q .ret f ds w
 | .panic ch,f,ds,w=>Q (.panic ch) f ds w
 | .outgrown,f,ds,w=>Q .outgrown f ds w
theorem CW.mono{c:Code}{Q':Post} (h:CW P c Q n f ds w) (hq:∀e f ds w,Q e f ds w→Q' e f ds w):CW P c Q' n f ds w:=
 ⟨fun a ha=>Code.wp_mono (fun e a w ⟨f',ds',hr,h⟩=>⟨f',ds',hr,hq _ _ _ _ h⟩) (h.out a ha)⟩
theorem CW.seq{x y:Code} (h:CW P x (thenC (CW P y Q n) Q) n f ds w):CW P (.seq x y) Q n f ds w:=
 ⟨fun a ha=>wp_seq (Code.wp_mono (fun e a' w' ⟨f',ds',hr,hq⟩=>by
  cases e with
  | normal=>exact(show CW P y Q n f' ds' w' from hq).out a' hr
  | exit id=>exact⟨f',ds',hr,hq⟩
  | goto id=>exact⟨f',ds',hr,hq⟩
  | ret=>exact⟨f',ds',hr,hq⟩
  | panic ch=>exact⟨f',ds',hr,hq⟩
  | outgrown=>exact⟨f',ds',hr,hq⟩) (h.out a ha))⟩
theorem CW.reg{id:Nat}{l:List Oper} (h:WL P l.toArray Q n l f ds w):CW P (.region id l.toArray false) Q n f ds w:=
 ⟨fun a ha=>wp_region_lit (h.out a ha)⟩
theorem CW.cond{c:Operand}{x y:Code}{b:Bool} (hc:ev f c=.bool b) (ht:b=true→CW P x Q n f ds w) (hf:b=false→CW P y Q n f ds w):CW P (.cond c x y) Q n f ds w:=
 ⟨fun a ha=>wp_cond_split (by rw[ha.eval];exact hc) (fun h=>(ht h).out a ha) (fun h=>(hf h).out a ha)⟩
theorem CW.condT{c:Operand}{x y:Code} (hc:ev f c=.bool true) (h:CW P x Q n f ds w):CW P (.cond c x y) Q n f ds w:=
 .cond hc (fun _=>h) (fun h=>by cases h)
theorem CW.condF{c:Operand}{x y:Code} (hc:ev f c=.bool false) (h:CW P y Q n f ds w):CW P (.cond c x y) Q n f ds w:=
 .cond hc (fun h=>by cases h) (fun _=>h)
theorem CW.block{id:Nat}{c:Code} (h:CW P c (inB id Q) n f ds w):CW P (.block id c) Q n f ds w:=
 ⟨fun a ha=>wp_block (Code.wp_mono (fun e a' w' ⟨f',ds',hr,hq⟩=>by
  cases e with
  | exit id'=>
   simp only[inB] at hq
   by_cases hid:id'=id
   ·subst hid
    simp only[Exit.inBlock,if_true]
    exact⟨f',ds',hr,by simpa using hq⟩
   ·have hb:Nat.beq id' id=false:=by
     cases hb:Nat.beq id' id with
     | true=>exact absurd (Nat.eq_of_beq_eq_true hb) hid
     | false=>rfl
    simp only[Exit.inBlock,hid,if_false]
    rw[hb] at hq
    exact⟨f',ds',hr,hq⟩
  | normal=>exact⟨f',ds',hr,hq⟩
  | goto id=>exact⟨f',ds',hr,hq⟩
  | ret=>exact⟨f',ds',hr,hq⟩
  | panic ch=>exact⟨f',ds',hr,hq⟩
  | outgrown=>exact⟨f',ds',hr,hq⟩) (h.out a ha))⟩
theorem CW.skip (h:Q .normal f ds w):CW P .skip Q n f ds w:=⟨fun a ha=>wp_skip ⟨f,ds,ha,h⟩⟩
theorem CW.ret (h:Q .ret f ds w):CW P .ret Q n f ds w:=⟨fun a ha=>wp_ret ⟨f,ds,ha,h⟩⟩
theorem CW.exit{id:Nat} (h:Q (.exit id) f ds w):CW P (.exit id) Q n f ds w:=⟨fun a ha=>wp_exit ⟨f,ds,ha,h⟩⟩
theorem CW.label{id:Nat} (h:Q .normal f ds w):CW P (.label id) Q n f ds w:=⟨fun a ha=>wp_label ⟨f,ds,ha,h⟩⟩
theorem wp_loop_ex{c:Code}{Q:Exit→Act→World→Prop}{a:Act}{w:World} (I:Nat→Act→World→Prop){m:Nat} (h₀:I m a w)
  (round:∀m a w,I m a w→c.wp P (Exit.then (fun a' w'=>∃m',m'<m∧I m' a' w') Q) a w):(Code.loop c).wp P Q a w:=by
 intro b k cs
 have key:∀m a w,I m a w→
   ∃e a' w',Q e a' w'∧Arrives P (lone (b.at a (.code c::.inLoop c::k)) cs w) b k cs e a' w':=by
  intro m
  induction m using Nat.strongRecOn with
  | _ m ih=>
   intro a w hI
   have ob:=round m a w hI b (.inLoop c::k) cs
   obtain⟨e,a₁,w₁,hq,harr⟩:=ob
   cases e with
   | normal=>
    obtain⟨m₁,hlt,hI₁⟩:=hq
    have ob:=ih m₁ hlt a₁ w₁ hI₁
    obtain⟨e₂,a₂,w₂,hq₂,harr₂⟩:=ob
    exact⟨e₂,a₂,w₂,hq₂,.of_steps (Steps.trans harr (.one step_inLoop)) harr₂⟩
   | exit id=>exact⟨_,a₁,w₁,hq,.pass (x:=.inLoop c) rfl (fun _ _=>.inl (by simp)) harr⟩
   | goto l=>exact⟨_,a₁,w₁,hq,.pass (x:=.inLoop c) rfl (fun _ _=>.inl (by simp)) harr⟩
   | ret=>exact⟨_,a₁,w₁,hq,.pass (x:=.inLoop c) rfl (fun _ _=>.inl (by simp)) harr⟩
   | panic ch=>exact⟨_,a₁,w₁,hq,.pass (x:=.inLoop c) rfl (fun _ _=>.inl (by simp)) harr⟩
   | outgrown=>exact⟨_,a₁,w₁,hq,.pass (x:=.inLoop c) rfl (fun _ _=>.inl (by simp)) harr⟩
 have ob:=key m a w h₀
 obtain⟨e,a',w',hq,harr⟩:=ob
 exact⟨e,a',w',hq,.of_steps (.one step_loop) harr⟩
theorem CW.loop{c:Code} (I:Nat→Slots→World→Prop){m:Nat} (h0:I m f w)
  (hr:∀m f w,I m f w→CW P c (thenC (fun f' ds' w'=>ds'=ds∧∃m',m'<m∧I m' f' w') Q) n f ds w):CW P (.loop c) Q n f ds w:=
 ⟨fun a ha=>wp_loop_ex (fun m a w=>∃f,Rep n f ds a∧I m f w) ⟨f,ha,h0⟩ fun m a w ⟨f,ha,hI⟩=>
  Code.wp_mono (fun e a' w' ⟨f',ds',hr',hq⟩=>by
   cases e with
   | normal=>
    obtain⟨hds,m',hlt,hI'⟩:=hq
    exact⟨m',hlt,f',hds▸hr',hI'⟩
   | exit id=>exact⟨f',ds',hr',hq⟩
   | goto id=>exact⟨f',ds',hr',hq⟩
   | ret=>exact⟨f',ds',hr',hq⟩
   | panic ch=>exact⟨f',ds',hr',hq⟩
   | outgrown=>exact⟨f',ds',hr',hq⟩) ((hr m f w hI).out a ha)⟩
end code
section entry
variable{P:Program}{n:Nat}{w:World}
def ini (vs:List Value):Slots:=fun t=>vs.getD t undef
theorem rep_ini {vs : List Value} (h : vs.length ≤ n) : Rep n (ini vs) [] { tmps := vs.toArray ++ Array.replicate (n - vs.toArray.size) undef, defers := [] } := by
 refine⟨by simp;omega,fun t=>?_,rfl⟩
 simp only[ini,Array.getD_eq_getD_getElem?,List.getD_eq_getElem?_getD]
 by_cases ht:t<vs.length
 ·rw[Array.getElem?_append_left (by simpa using ht)];simp
 ·rw[Array.getElem?_append_right (by simpa using ht),List.getElem?_eq_none (by omega)]
  simp only[Array.getElem?_replicate]
  split <;> rfl
def fin (P:Program) (n:Nat) (fn:Func) (R:Ending→World→Prop):Post:=fun e f ds w=>∀a,Rep n f ds a→bodyPost P fn R e a w
theorem calls{F:FuncId}{fn:Func}{c:Code}{vs:List Value}{R:Ending→World→Prop} (hf:P.funcs[F]?=some fn) (hb:fn.body=some c) (hn:fn.ntmps=n) (hv:Nat.ble vs.length n=true)
  (h:CW P c (fin P n fn R) n (ini vs) [] w):Calls P F vs.toArray w R:=
 calls_of_wp hf hb (Code.wp_mono (fun e a w ⟨f, ds, hr, hq⟩ => hq a hr) (h.out _ (by rw [hn]; exact rep_ini (by simpa using hv))))
section
variable{fn:Func}{R:Ending→World→Prop}{f:Slots}
theorem fin_ret0 (hr:fn.results=#[]) (h:R (.returned (.tuple #[])) w):fin P n fn R .ret f [] w:=
 fun a ha=>bodyPost_ret (results_none hr _ _ _) ha.defers h
theorem fin_end0 (hr:fn.results=#[]) (h:R (.returned (.tuple #[])) w):fin P n fn R .normal f [] w:=
 fun a ha=>bodyPost_end (results_none hr _ _ _) ha.defers h
theorem fin_ret1{t:Tmp} (hr:fn.results=#[.tmp t]) (h:R (.returned (f t)) w):fin P n fn R .ret f [] w:=
 fun a ha=>bodyPost_ret (results_tmp hr _ _ _) ha.defers (by rw[ha.get];exact h)
theorem fin_ret2{t u:Tmp} (hr:fn.results=#[.tmp t,.tmp u]) (h:R (.returned (.tuple #[f t,f u])) w):fin P n fn R .ret f [] w:=
 fun a ha=>bodyPost_ret (results_tmp2 hr _ _ _) ha.defers (by rw[ha.get,ha.get];exact h)
theorem fin_ret3{t u s:Tmp} (hr:fn.results=#[.tmp t,.tmp u,.tmp s]) (h:R (.returned (.tuple #[f t,f u,f s])) w):fin P n fn R .ret f [] w:=
 fun a ha=>bodyPost_ret (v:=.tuple #[f t,f u,f s]) (by simp[results,hr,ha.get]) ha.defers h
theorem fin_cell1{t:Tmp}{T:TypeId}{A:Addr}{v:Value} (hr:fn.results=#[.cell t T]) (hA:f t=.pointer (some A)) (hv:(loadVar T A).run P w=.ok v w) (h:R (.returned v) w):fin P n fn R .ret f [] w:=
 fun a ha=>bodyPost_ret (v:=v) (by simp[results,hr,ha.get,hA,asAddr,hv]) ha.defers h
theorem fin_panic{ch:List PanicEntry} (h:R (.panicked ch) w):fin P n fn R (.panic ch) f [] w:=fun a ha=>⟨ha.defers,h⟩
end
end entry
end Go.Gx
namespace Go.Gx
def blk (T:TypeId) (cs:List Value):Obj:=.cells cs.toArray T (0,0)
def blkM (T:TypeId) (cs:List Value):Obj:=.cells cs.toArray T (cs.length,cs.length+1)
/- What is kept of how often the tape was asked: nothing, where strings.Join's contract says nothing of it. -/
abbrev dr (w:World):Nat:=w.drawn
structure Chg (S:List Nat) (w w':World):Prop where
 os:w'.os=w.os
 tape:w'.tape=w.tape
 output:w'.output=w.output
 size:w.heap.size≤w'.heap.size
 block:∀k,k<w.heap.size→k∉S→w'.heap[k]?=w.heap[k]?
 drawn:dr w≤dr w'
theorem Chg.refl (S:List Nat) (w:World):Chg S w w:=⟨rfl,rfl,rfl,Nat.le_refl _,fun _ _ _=>rfl,Nat.le_refl _⟩
theorem Chg.trans {S S':List Nat}{w w' w'':World} (h:Chg S w w') (h':Chg S' w' w'') (hs:∀k∈S',k∈S∨w.heap.size≤k):Chg S w w'':=
 ⟨h'.os.trans h.os,h'.tape.trans h.tape,h'.output.trans h.output,Nat.le_trans h.size h'.size,fun k hk hn=>by
  rw[h'.block k (Nat.lt_of_lt_of_le hk h.size) (fun hk'=>by rcases hs k hk' with h1 | h1;exact hn h1;omega),h.block k hk hn],Nat.le_trans h.drawn h'.drawn⟩
structure Step (S:List Nat) (L:List (Nat×Obj)) (w w':World):Prop where
 chg:Chg S w w'
 nodup:(L.map (·.1)).Nodup
 has:∀p∈L,w'.heap[p.1]?=some p.2
 new:∀p∈L,p.1∈S∨w.heap.size≤p.1
theorem lt_of_get{w:World}{b:Nat}{o:Obj} (h:w.heap[b]?=some o):b<w.heap.size:=by
 rcases Nat.lt_or_ge b w.heap.size with h' | h'
 ·exact h'
 ·rw[Array.getElem?_eq_none h'] at h;cases h
theorem Step.refl (w:World):Step [] [] w w:=⟨Chg.refl _ _,by simp,by simp,by simp⟩
theorem Step.start{L:List (Nat×Obj)}{w:World} (hn:(L.map (·.1)).Nodup) (hh:∀p∈L,w.heap[p.1]?=some p.2):Step (L.map (·.1)) L w w:=
 ⟨Chg.refl _ _,hn,hh,fun p hp=>.inl (List.mem_map_of_mem hp)⟩
section
variable{S:List Nat}{L L' L1 L2:List (Nat×Obj)}{w w' w'':World}
theorem Step.perm (h:Step S L w w') (hp:L.Perm L'):Step S L' w w':=
 ⟨h.chg,(hp.map _).nodup_iff.1 h.nodup,fun p hm=>h.has p (hp.mem_iff.2 hm),fun p hm=>h.new p (hp.mem_iff.2 hm)⟩
theorem Step.dropL (h:Step S (L1++L2) w w'):Step S L2 w w':=
 ⟨h.chg,by have:=h.nodup;rw[List.map_append,List.nodup_append] at this;exact this.2.1,fun p hm=>h.has p (by simp[hm]),fun p hm=>h.new p (by simp[hm])⟩
theorem Step.dropR (h:Step S (L1++L2) w w'):Step S L1 w w':=
 ⟨h.chg,by have:=h.nodup;rw[List.map_append,List.nodup_append] at this;exact this.1,fun p hm=>h.has p (by simp[hm]),fun p hm=>h.new p (by simp[hm])⟩
theorem Step.tail{p:Nat×Obj} (h:Step S (p::L) w w'):Step S L w w':=Step.dropL (L1:=[p]) h
theorem Step.clear (h:Step S L w w'):Step S [] w w':=⟨h.chg,by simp,by simp,by simp⟩
theorem Step.front (L1:List (Nat×Obj)){p:Nat×Obj} (h:Step S (L1++p::L2) w w'):Step S (p::(L1++L2)) w w':=h.perm List.perm_middle
theorem Step.swap{p q:Nat×Obj} (h:Step S (p::q::L) w w'):Step S (q::p::L) w w':=h.perm (List.Perm.swap _ _ _)
theorem Step.rot3{p q r:Nat×Obj} (h:Step S (p::q::r::L) w w'):Step S (r::p::q::L) w w':=h.front [p,q]
theorem Step.append_comm (h:Step S (L1++L2) w w'):Step S (L2++L1) w w':=h.perm List.perm_append_comm
theorem Step.call (h:Step S (L1++L) w w') (hc:Step (L1.map (·.1)) L' w' w''):Step S (L'++L) w w'':=by
 have hn:=h.nodup
 rw[List.map_append,List.nodup_append] at hn
 obtain⟨hn1,hn2,hn3⟩:=hn
 refine⟨h.chg.trans hc.chg ?_,?_,?_,?_⟩
 ·intro k hk
  have ob:=List.mem_map.1 hk
  obtain⟨p,hp,rfl⟩:=ob
  exact h.new p (by simp[hp])
 ·rw[List.map_append,List.nodup_append]
  refine⟨hc.nodup,hn2,fun a ha b hb hab=>?_⟩
  subst hab
  have ob:=List.mem_map.1 ha
  obtain⟨p,hp,rfl⟩:=ob
  have ob:=List.mem_map.1 hb
  obtain⟨q,hq,hqp⟩:=ob
  rcases hc.new p hp with h1 | h1
  ·exact hn3 _ h1 _ hb rfl
  ·have:=lt_of_get (h.has q (by simp[hq]))
   omega
 ·intro p hp
  rcases List.mem_append.1 hp with hp | hp
  ·exact hc.has p hp
  ·rw[hc.chg.block p.1 (lt_of_get (h.has p (by simp[hp]))) (fun hk=>hn3 _ hk _ (List.mem_map_of_mem hp) rfl)]
   exact h.has p (by simp[hp])
 ·intro p hp
  rcases List.mem_append.1 hp with hp | hp
  ·rcases hc.new p hp with h1 | h1
   ·have ob:=List.mem_map.1 h1
    obtain⟨q,hq,hqp⟩:=ob
    rw[←hqp]
    exact h.new q (by simp[hq])
   ·exact .inr (Nat.le_trans h.chg.size h1)
  ·exact h.new p (by simp[hp])
theorem Step.call0 (h:Step S L w w') (hc:Step [] L' w' w''):Step S (L'++L) w w'':=Step.call (L1:=[]) h hc
theorem Step.drewN (h:Step S L w w') (n:Nat):Step S L w (w'.drewN n):=⟨⟨h.chg.os,h.chg.tape,h.chg.output,h.chg.size,h.chg.block,Nat.le_trans h.chg.drawn (by first | exact Nat.le_add_right _ _ | exact Nat.le_refl _)⟩,h.nodup,h.has,h.new⟩
theorem Step.drew (h:Step S L w w'):Step S L w w'.drew:=h.drewN 1
theorem heap_alloc_new (w:World) (o:Obj):(w.alloc o).heap[w.heap.size]?=some o:=by
 show(w.heap.push o)[w.heap.size]?=some o
 simp
theorem heap_alloc_old (w:World) (o:Obj){k:Nat} (h:k<w.heap.size):(w.alloc o).heap[k]?=w.heap[k]?:=by
 show(w.heap.push o)[k]?=_
 rw[Array.getElem?_push,if_neg (by omega)]
theorem Step.alloc (h:Step S L w w') (o:Obj):Step S ((w'.heap.size,o)::L) w (w'.alloc o):=by
 have hc:Step [] [(w'.heap.size,o)] w' (w'.alloc o):=by
  refine⟨⟨rfl,rfl,rfl,by simp,fun k hk _=>heap_alloc_old _ _ hk,Nat.le_refl _⟩,by simp,?_,?_⟩
  ·intro p hp;simp at hp;subst hp;exact heap_alloc_new _ _
  ·intro p hp;simp at hp;subst hp;exact .inr (Nat.le_refl _)
 exact h.call0 hc
theorem heap_setCell_other (w:World) (a:Addr) (u:Value){k:Nat} (h:k≠a.block):(w.setCell a u).heap[k]?=w.heap[k]?:=by
 simp only[World.setCell,Array.getElem?_modify]
 rw[if_neg (by omega)]
theorem heap_setCell_blk (w:World){b:Nat}{T:TypeId}{cs:List Value} (o:Nat) (v:Value) (h:w.heap[b]?=some (blk T cs)):(w.setCell ⟨b,o,none⟩ v).heap[b]?=some (blk T (cs.set o v)):=by
 simp only[World.setCell,Array.getElem?_modify,if_true,h,blk,Option.map_some]
 simp
theorem Step.set{b:Nat}{T:TypeId}{cs:List Value} (h:Step S ((b,blk T cs)::L) w w') (o:Nat) (v:Value):Step S ((b,blk T (cs.set o v))::L) w (w'.setCell ⟨b,o,none⟩ v):=by
 have hb:=h.has (b,blk T cs) (by simp)
 have hc:Step ([(b,blk T cs)].map (·.1)) [(b,blk T (cs.set o v))] w' (w'.setCell ⟨b,o,none⟩ v):=by
  refine⟨⟨rfl,rfl,rfl,by simp,fun k hk hn=>heap_setCell_other _ _ _ (by simpa using hn),Nat.le_refl _⟩,by simp,?_,by simp⟩
  intro p hp;simp at hp;subst hp;exact heap_setCell_blk _ _ _ hb
 exact Step.call (L1:=[(b,blk T cs)]) h hc
theorem Step.old{b:Nat}{o:Obj} (h:Step S L w w') (hb:w.heap[b]?=some o) (hS:b∉S):w'.heap[b]?=some o:=by
 rw[h.chg.block b (lt_of_get hb) hS,hb]
theorem Step.get{b:Nat}{o:Obj} (h:Step S L w w') (hb:(b,o)∈L):w'.heap[b]?=some o:=h.has _ hb
theorem Step.hd{b:Nat}{o:Obj} (h:Step S ((b,o)::L) w w'):w'.heap[b]?=some o:=h.has (b,o) (by simp)
end
theorem cell_blk{w:World}{b:Nat}{T:TypeId}{cs:List Value} (h:w.heap[b]?=some (blk T cs)) (o:Nat):w.cell? ⟨b,o,none⟩=cs[o]?:=by
 simp[World.cell?,h,blk]
theorem cell_blkM{w:World}{b:Nat}{T:TypeId}{cs:List Value} (h:w.heap[b]?=some (blkM T cs)) (o:Nat):w.cell? ⟨b,o,none⟩=cs[o]?:=by
 simp[World.cell?,h,blkM]
theorem frozen_blk{w:World}{b:Nat}{T:TypeId}{cs:List Value} (h:w.heap[b]?=some (blk T cs)) (o:Nat):w.frozen? ⟨b,o,none⟩=false:=by
 simp[World.frozen?,h,blk]
def At (w:World) (b off:Nat) (cs:List Value):Prop:=∀j v,cs[j]?=some v→w.cell? ⟨b,off+j,none⟩=some v
theorem At.nil{w:World}{b off:Nat}:At w b off []:=by intro j v h;simp at h
theorem At.of_blk{w:World}{b:Nat}{T:TypeId}{cs:List Value} (h:w.heap[b]?=some (blk T cs)):At w b 0 cs:=fun j v hj=>by rw[cell_blk h,Nat.zero_add];exact hj
theorem At.of_blkM{w:World}{b:Nat}{T:TypeId}{cs:List Value} (h:w.heap[b]?=some (blkM T cs)):At w b 0 cs:=fun j v hj=>by rw[cell_blkM h,Nat.zero_add];exact hj
theorem At.drop{w:World}{b off:Nat}{cs:List Value} (h:At w b off cs) (k:Nat):At w b (off+k) (cs.drop k):=fun j v hj=>by
 rw[List.getElem?_drop] at hj
 have:=h _ _ hj
 rwa [←Nat.add_assoc] at this
theorem At.take{w:World}{b off:Nat}{cs:List Value} (h:At w b off cs) (k:Nat):At w b off (cs.take k):=fun j v hj=>by
 rw[List.getElem?_take] at hj
 split at hj
 ·exact h _ _ hj
 ·cases hj
theorem At.left{w:World}{b off:Nat}{cs ds:List Value} (h:At w b off (cs++ds)):At w b off cs:=by
 have:=h.take cs.length
 simpa using this
theorem At.right{w:World}{b off:Nat}{cs ds:List Value} (h:At w b off (cs++ds)):At w b (off+cs.length) ds:=by
 have:=h.drop cs.length
 simpa using this
theorem At.cell{w:World}{b off:Nat}{cs:List Value} (h:At w b off cs){j:Nat}{v:Value} (hj:cs[j]?=some v):w.cell? ⟨b,off+j,none⟩=some v:=h j v hj
theorem At.lt{w:World}{b off:Nat}{cs:List Value} (h:At w b off cs) (hne:cs≠[]):b<w.heap.size:=by
 cases cs with
 | nil=>exact absurd rfl hne
 | cons c cs=>
  have:=h 0 c rfl
  unfold World.cell? at this
  split at this
  ·rename_i hb;exact lt_of_get hb
  ·cases this
theorem cell_of_heap {w w':World}{b:Nat} (h:w'.heap[b]?=w.heap[b]?) (o:Nat):w'.cell? ⟨b,o,none⟩=w.cell? ⟨b,o,none⟩:=by simp[World.cell?,h]
theorem At.step{S:List Nat}{L:List (Nat×Obj)}{w w':World}{b off:Nat}{cs:List Value} (h:At w b off cs) (hs:Step S L w w') (hS:b∉S):At w' b off cs:=fun j v hj=>by
 have h1:=h j v hj
 rw[cell_of_heap (hs.chg.block b (h.lt (fun e=>by subst e;simp at hj)) hS)]
 exact h1
def Sl (w:World) (sz:Nat) (v:Value) (n:Nat) (cs:List Value):Prop:=
 cs.length=n*sz∧((∃a c,v=.slice a n c∧n=0)∨∃b off c,v=.slice (some ⟨b,off,none⟩) n c∧At w b off cs)
def Outside (v:Value) (S:List Nat):Prop:=match v with | .slice (some a) _ _=>a.block∉S | _=>True
theorem Sl.nil (w:World) (sz c:Nat):Sl w sz (.slice none 0 c) 0 []:=⟨by simp,.inl ⟨none,c,rfl,rfl⟩⟩
theorem Sl.mk{w:World}{sz b off n c:Nat}{cs:List Value} (hl:cs.length=n*sz) (h:At w b off cs):Sl w sz (.slice (some ⟨b,off,none⟩) n c) n cs:=⟨hl,.inr ⟨b,off,c,rfl,h⟩⟩
theorem Sl.step{S:List Nat}{L:List (Nat×Obj)}{w w':World}{sz n:Nat}{v:Value}{cs:List Value} (h:Sl w sz v n cs) (hs:Step S L w w') (hS:Outside v S):Sl w' sz v n cs:=by
 obtain⟨hl,h | ⟨b,off,c,rfl,h⟩⟩:=h
 ·exact⟨hl,.inl h⟩
 ·exact⟨hl,.inr ⟨b,off,c,rfl,h.step hs hS⟩⟩
theorem outside_nil (v:Value):Outside v []:=by unfold Outside;split <;> simp
theorem Sl.step0{L:List (Nat×Obj)}{w w':World}{sz n:Nat}{v:Value}{cs:List Value} (h:Sl w sz v n cs) (hs:Step [] L w w'):Sl w' sz v n cs:=h.step hs (outside_nil _)
def Room (v:Value):Prop:=match v with | .slice _ n c=>n≤c | _=>True
end Go.Gx
namespace Go.Gx
def isAggD:TypeDesc→Bool | .struct _ | .array _ _=>true | _=>false
def isAggV:Value→Bool | .agg _ | .tuple _=>true | _=>false
structure Ty (P:Program) (T:TypeId) (agg:Bool) (n bytes:Nat) (zs:List Value):Prop where
 und:∃d,P.underlying T=some d∧isAggD d=agg
 info:∃i z,P.info? T=some i∧i.size=n∧i.bytes=bytes∧i.zero=some z∧z.cells=zs.toArray∧isAggV z=agg
theorem ty_of{P:Program}{T:TypeId}{d:TypeDesc}{agg:Bool}{n b:Nat}{z:Value}{zs:List Value} (hu:P.underlying T=some d) (ha:isAggD d=agg)
  (hi:(P.info? T).map (fun i=>(i.zero,i.size,i.bytes))=some (some z,n,b)) (hc:z.cells=zs.toArray) (hz:isAggV z=agg):Ty P T agg n b zs:=by
 refine⟨⟨d,hu,ha⟩,?_⟩
 cases h:P.info? T with
 | none=>rw[h] at hi;cases hi
 | some i=>
  rw[h] at hi
  simp only[Option.map_some,Option.some.injEq,Prod.mk.injEq] at hi
  exact⟨i,z,rfl,hi.2.1,hi.2.2,hi.1,hc,hz⟩
def str (l:List UInt8):Value:=.string ⟨⟨l⟩⟩
def u8s (l:List UInt8):List Value:=l.map fun c=>.int .u8 c.toNat
section
variable{P:Program}{f:Slots}{w:World}{d:Option Tmp}{ty:TypeId}{pos:String}{af:Array Edge}{x y z:Operand}{T T':TypeId}{a b:Int}{k:IntKind}
theorem run_move:(execOp (ev f) ⟨d,.move x,ty,pos,af,none⟩).run P w=.ok (.value (ev f x)) w:=rfl
theorem run_assign:(execOp (ev f) ⟨d,.assign x,ty,pos,af,none⟩).run P w=.ok (.value (ev f x)) w:=rfl
theorem run_pickT (hx:ev f x=.bool true):(execOp (ev f) ⟨d,.pick x y z,ty,pos,af,none⟩).run P w=.ok (.value (ev f y)) w:=by
 simp[execOp,hx,asBool]
theorem run_pickF (hx:ev f x=.bool false):(execOp (ev f) ⟨d,.pick x y z,ty,pos,af,none⟩).run P w=.ok (.value (ev f z)) w:=by
 simp[execOp,hx,asBool]
theorem run_nilCheck{A:Addr} (hx:ev f x=.pointer (some A)):(execOp (ev f) ⟨d,.nilCheck x,ty,pos,af,none⟩).run P w=.ok (.value (.pointer (some A))) w:=by
 simp[execOp,hx]
theorem run_extract{vs:Array Value}{i:Nat}{v:Value} (hx:ev f x=.tuple vs) (hi:vs[i]?=some v):(execOp (ev f) ⟨d,.extract x i,ty,pos,af,none⟩).run P w=.ok (.value v) w:=by
 simp[execOp,hx,Instr.extract,hi]
theorem run_notB{p:Prop} [Decidable p] (hx:ev f x=.bool (decide p)):(execOp (ev f) ⟨d,.unOp .not T x,ty,pos,af,none⟩).run P w=.ok (.value (.bool (decide (¬p)))) w:=by
 have e:(!decide p)=decide (¬p):=by by_cases h:p <;> simp[h]
 rw[←e]
 simp[execOp,hx,Op.unary]
theorem run_not{b:Bool} (hx:ev f x=.bool b):(execOp (ev f) ⟨d,.unOp .not T x,ty,pos,af,none⟩).run P w=.ok (.value (.bool !b)) w:=by
 simp[execOp,hx,Op.unary]
theorem run_bT{p:Prop} [Decidable p]{o:Op} (h:(execOp (ev f) ⟨d,o,ty,pos,af,none⟩).run P w=.ok (.value (.bool (decide p))) w) (hp:p):(execOp (ev f) ⟨d,o,ty,pos,af,none⟩).run P w=.ok (.value (.bool true)) w:=by
 rw[h,decide_eq_true hp]
theorem run_bF{p:Prop} [Decidable p]{o:Op} (h:(execOp (ev f) ⟨d,o,ty,pos,af,none⟩).run P w=.ok (.value (.bool (decide p))) w) (hp:¬p):(execOp (ev f) ⟨d,o,ty,pos,af,none⟩).run P w=.ok (.value (.bool false)) w:=by
 rw[h,decide_eq_false hp]
theorem run_bE {b b':Bool}{o:Op} (h:(execOp (ev f) ⟨d,o,ty,pos,af,none⟩).run P w=.ok (.value (.bool b)) w) (hb:b=b'):(execOp (ev f) ⟨d,o,ty,pos,af,none⟩).run P w=.ok (.value (.bool b')) w:=by
 rw[h,hb]
section ints
variable (hx:ev f x=.int k a) (hy:ev f y=.int k b)
include hx hy
theorem run_lss:(execOp (ev f) ⟨d,.binOp .lss T x y T',ty,pos,af,none⟩).run P w=.ok (.value (.bool (decide (a<b)))) w:=by simp[execOp,hx,hy,go_sem]
theorem run_leq:(execOp (ev f) ⟨d,.binOp .leq T x y T',ty,pos,af,none⟩).run P w=.ok (.value (.bool (decide (a≤b)))) w:=by simp[execOp,hx,hy,go_sem]
theorem run_gtr:(execOp (ev f) ⟨d,.binOp .gtr T x y T',ty,pos,af,none⟩).run P w=.ok (.value (.bool (decide (b<a)))) w:=by simp[execOp,hx,hy,go_sem]
theorem run_geq:(execOp (ev f) ⟨d,.binOp .geq T x y T',ty,pos,af,none⟩).run P w=.ok (.value (.bool (decide (b≤a)))) w:=by simp[execOp,hx,hy,go_sem]
theorem run_eql:(execOp (ev f) ⟨d,.binOp .eql T x y T',ty,pos,af,none⟩).run P w=.ok (.value (.bool (decide (a=b)))) w:=by
 simp[execOp,hx,hy,go_sem];rfl
theorem run_neq:(execOp (ev f) ⟨d,.binOp .neq T x y T',ty,pos,af,none⟩).run P w=.ok (.value (.bool (decide (a≠b)))) w:=by
 have e:(a != b)=decide (a≠b):=by by_cases h:a=b <;> simp[h]
 simp only[execOp,hx,hy,eqGuard_at_int,binOp_neq,e]
 rfl
theorem run_addW:(execOp (ev f) ⟨d,.binOp .add T x y T',ty,pos,af,none⟩).run P w=.ok (.value (.int k (k.wrap (a+b)))) w:=by simp[execOp,hx,hy,go_sem]
theorem run_subW:(execOp (ev f) ⟨d,.binOp .sub T x y T',ty,pos,af,none⟩).run P w=.ok (.value (.int k (k.wrap (a - b)))) w:=by simp[execOp,hx,hy,go_sem]
theorem run_mulW:(execOp (ev f) ⟨d,.binOp .mul T x y T',ty,pos,af,none⟩).run P w=.ok (.value (.int k (k.wrap (a*b)))) w:=by simp[execOp,hx,hy,go_sem]
theorem run_rem (hb:b≠0):(execOp (ev f) ⟨d,.binOp .rem T x y T',ty,pos,af,none⟩).run P w=.ok (.value (.int k (a.tmod b))) w:=by simp[execOp,hx,hy,go_sem,Op.intDiv,hb]
theorem run_quoW (hb:b≠0):(execOp (ev f) ⟨d,.binOp .quo T x y T',ty,pos,af,none⟩).run P w=.ok (.value (.int k (k.wrap (a.tdiv b)))) w:=by simp[execOp,hx,hy,go_sem,Op.intDiv,hb]
end ints
theorem wrap_i64{a:Int} (h : -9223372036854775808≤a∧a≤9223372036854775807):IntKind.i64.wrap a=a:=IntWalk.i64_in _ (by omega)
section i64s
variable (hx:ev f x=.int .i64 a) (hy:ev f y=.int .i64 b)
include hx hy
theorem run_add{c:Int} (hc:a+b=c) (h : -9223372036854775808≤c∧c≤9223372036854775807):(execOp (ev f) ⟨d,.binOp .add T x y T',ty,pos,af,none⟩).run P w=.ok (.value (.int .i64 c)) w:=by
 rw[run_addW hx hy,hc,wrap_i64 h]
theorem run_sub{c:Int} (hc:a - b=c) (h : -9223372036854775808≤c∧c≤9223372036854775807):(execOp (ev f) ⟨d,.binOp .sub T x y T',ty,pos,af,none⟩).run P w=.ok (.value (.int .i64 c)) w:=by
 rw[run_subW hx hy,hc,wrap_i64 h]
theorem run_mul{c:Int} (hc:a*b=c) (h : -9223372036854775808≤c∧c≤9223372036854775807):(execOp (ev f) ⟨d,.binOp .mul T x y T',ty,pos,af,none⟩).run P w=.ok (.value (.int .i64 c)) w:=by
 rw[run_mulW hx hy,hc,wrap_i64 h]
end i64s
theorem run_shr {k':IntKind}{s:Int} (hx:ev f x=.int k a) (hy:ev f y=.int k' s) (hs:0≤s) :
  (execOp (ev f) ⟨d,.binOp .shr T x y T',ty,pos,af,none⟩).run P w=.ok (.value (.int k (a.fdiv (2 ^ min s.toNat k.bits)))) w:=by
 have:¬s<0:=by omega
 simp[execOp,hx,hy,go_sem,Op.shift,this]
theorem run_shl {k':IntKind}{s:Int} (hx:ev f x=.int k a) (hy:ev f y=.int k' s) (hs:0≤s) :
  (execOp (ev f) ⟨d,.binOp .shl T x y T',ty,pos,af,none⟩).run P w=.ok (.value (.int k (k.wrap (a*2 ^ min s.toNat k.bits)))) w:=by
 have:¬s<0:=by omega
 simp[execOp,hx,hy,go_sem,Op.shift,this]
theorem run_convInt {k k':IntKind}{ds:TypeDesc} (hs:P.underlying T=some ds) (ht:P.underlying T'=some (.int k')) (hx:ev f x=.int k a) :
  (execOp (ev f) ⟨d,.convert T T' x,ty,pos,af,none⟩).run P w=.ok (.value (.int k' (k'.wrap a))) w:=by
 simp[execOp,hx,convert,run_underlying hs,run_underlying ht,Conv.intToInt]
section strs
variable{s t:List UInt8}
theorem toList_str (s:List UInt8):(ByteArray.mk ⟨s⟩).toList=s:=by rw[ByteArray.toList_eq]
theorem run_strEq (hx:ev f x=str s) (hy:ev f y=str t):(execOp (ev f) ⟨d,.binOp .eql T x y T',ty,pos,af,none⟩).run P w=.ok (.value (.bool (decide (s=t)))) w:=by
 have e:(s == t)=decide (s=t):=by by_cases h:s=t <;> simp[h]
 rw[←e]
 simp[execOp,hx,hy,str,go_sem,binOp,Op.stringOp,toList_str]
theorem run_strNe (hx:ev f x=str s) (hy:ev f y=str t):(execOp (ev f) ⟨d,.binOp .neq T x y T',ty,pos,af,none⟩).run P w=.ok (.value (.bool (decide (s≠t)))) w:=by
 have e:(!(s == t))=decide (s≠t):=by by_cases h:s=t <;> simp[h]
 rw[←e]
 simp[execOp,hx,hy,str,go_sem,binOp,Op.stringOp,toList_str]
theorem run_strLt (hx:ev f x=str s) (hy:ev f y=str t):(execOp (ev f) ⟨d,.binOp .lss T x y T',ty,pos,af,none⟩).run P w=.ok (.value (.bool (Op.bytesLess s t))) w:=by
 simp[execOp,hx,hy,str,go_sem,binOp,Op.stringOp,toList_str]
theorem run_strGt (hx:ev f x=str s) (hy:ev f y=str t):(execOp (ev f) ⟨d,.binOp .gtr T x y T',ty,pos,af,none⟩).run P w=.ok (.value (.bool (!(Op.bytesLess s t || s == t)))) w:=by
 simp[execOp,hx,hy,str,go_sem,binOp,Op.stringOp,toList_str]
theorem run_strIdx{i:Nat}{c:UInt8} (ht:P.underlying T=some .string) (hx:ev f x=str s) (hy:ev f y=.int k i) (hi:s[i]?=some c) :
  (execOp (ev f) ⟨d,.index T x y,ty,pos,af,none⟩).run P w=.ok (.value (.int .u8 c.toNat)) w:=by
 have h1:(ByteArray.mk ⟨s⟩)[i]?=some c:=by
  have ob:=List.getElem?_eq_some_iff.1 hi
  obtain⟨hlt,he⟩:=ob
  have hlt':i<(ByteArray.mk ⟨s⟩).size:=hlt
  rw[getElem?_pos (ByteArray.mk ⟨s⟩) i hlt']
  exact congrArg some he
 simp[execOp,hx,hy,str,Instr.index,asIntOf,run_underlying ht,h1]
theorem run_lenStr (ht:P.underlying T=some .string) (hx:ev f x=str s) :
  (execOp (ev f) ⟨d,.call { callee:=.builtin .len,args:=#[x],argTypes:=#[T] },ty,pos,af,none⟩).run P w=.ok (.value (.int .i64 s.length)) w:=by
 have hsz:(ByteArray.mk ⟨s⟩).size=s.length:=rfl
 simp[execOp,hx,str,resolve,invoke,builtin,Builtin.len_,run_underlying ht,goInt,hsz]
theorem run_sliceStr{lo hi:Nat}{xl xh:Option Operand} (ht:P.underlying T=some .string) (hx:ev f x=str s)
  (hl:match xl with | some o=>ev f o=.int .i64 lo | none=>lo=0) (hh:match xh with | some o=>ev f o=.int .i64 hi | none=>hi=s.length) (h1:lo≤hi) (h2:hi≤s.length) :
  (execOp (ev f) ⟨d,.slice T x xl xh none,ty,pos,af,none⟩).run P w=.ok (.value (str ((s.take hi).drop lo))) w:=by
 have hsz:(ByteArray.mk ⟨s⟩).size=s.length:=rfl
 have hex:(ByteArray.mk ⟨s⟩).extract lo hi=⟨⟨(s.take hi).drop lo⟩⟩:=by
  apply ByteArray.ext
  rw[ByteArray.data_extract]
  simp[List.drop_take]
 cases xl with
 | none=>
  simp only at hl
  subst hl
  cases xh with
  | none=>
   simp only at hh
   subst hh
   simp[execOp,hx,str,Instr.sliceAt,Instr.slice,run_underlying ht,Instr.sliceBounds,hsz,hex]
  | some o=>
   simp only at hh
   simp[execOp,hx,hh,str,Instr.sliceAt,Instr.slice,run_underlying ht,Instr.sliceBounds,Instr.sliceBound,asIntOf,hsz,hex,h2]
 | some o'=>
  simp only at hl
  cases xh with
  | none=>
   simp only at hh
   subst hh
   simp[execOp,hx,hl,str,Instr.sliceAt,Instr.slice,run_underlying ht,Instr.sliceBounds,Instr.sliceBound,asIntOf,hsz,hex,h1]
  | some o=>
   simp only at hh
   simp[execOp,hx,hl,hh,str,Instr.sliceAt,Instr.slice,run_underlying ht,Instr.sliceBounds,Instr.sliceBound,asIntOf,hsz,hex,h2,h1]
end strs
section slices
variable{E:TypeId}{ad:Option Addr}{len cap:Nat}
theorem run_lenSl (ht:P.underlying T=some (.slice E)) (hx:ev f x=.slice ad len cap) :
  (execOp (ev f) ⟨d,.call { callee:=.builtin .len,args:=#[x],argTypes:=#[T] },ty,pos,af,none⟩).run P w=.ok (.value (.int .i64 len)) w:=by
 simp[execOp,hx,resolve,invoke,builtin,Builtin.len_,run_underlying ht,goInt]
theorem add_off (b o n:Nat):Addr.add ⟨b,o,none⟩ n=⟨b,o+n,none⟩:=Addr.add_lit b o n
theorem run_sizeOf{agg:Bool}{n bytes:Nat}{zs:List Value} (hE:Ty P E agg n bytes zs) (w:World):(sizeOf E).run P w=.ok n w:=by
 have ob:=hE.info
 obtain⟨i,z,hi,hs,_⟩:=ob
 simp[sizeOf,typeInfo,hi,hs]
theorem run_ixSl{agg:Bool}{n bytes:Nat}{zs:List Value}{bk off:Nat}{i:Int} (ht:P.underlying T=some (.slice E)) (hE:Ty P E agg n bytes zs) (hx:ev f x=.slice (some ⟨bk,off,none⟩) len cap) (hy:ev f y=.int k i)
  (h:0≤i∧i<len):(execOp (ev f) ⟨d,.indexAddr T x y,ty,pos,af,none⟩).run P w=.ok (.value (.pointer (some ⟨bk,off+i.toNat*n,none⟩))) w:=by
 simp[execOp,hx,hy,Instr.indexAt,asIntOf,run_underlying ht,h,run_sizeOf hE,add_off]
theorem run_ixSlN{agg:Bool}{n bytes:Nat}{zs:List Value}{bk off i:Nat} (ht:P.underlying T=some (.slice E)) (hE:Ty P E agg n bytes zs) (hx:ev f x=.slice (some ⟨bk,off,none⟩) len cap) (hy:ev f y=.int k i)
  (h:i<len):(execOp (ev f) ⟨d,.indexAddr T x y,ty,pos,af,none⟩).run P w=.ok (.value (.pointer (some ⟨bk,off+i*n,none⟩))) w:=by
 rw[run_ixSl ht hE hx hy (by omega),Int.toNat_natCast]
theorem run_ixArrN{agg:Bool}{n bytes:Nat}{zs:List Value}{bk off m i:Nat} (ht:P.underlying T=some (.array m E)) (hE:Ty P E agg n bytes zs) (hx:ev f x=.pointer (some ⟨bk,off,none⟩)) (hy:ev f y=.int k i)
  (h:i<m):(execOp (ev f) ⟨d,.indexAddr T x y,ty,pos,af,none⟩).run P w=.ok (.value (.pointer (some ⟨bk,off+i*n,none⟩))) w:=by
 simp[execOp,hx,hy,Instr.indexAt,asIntOf,run_underlying ht,h,run_sizeOf hE,add_off,Instr.sureAddr]
def cutSl (sz bk off lo hi m:Nat):Value:=.slice (some ⟨bk,if m=lo then off else off+lo*sz,none⟩) (hi - lo) (m - lo)
def LoOk (v:Option Value) (lo:Nat):Prop:=match v with | some o=>o=.int .i64 lo | none=>lo=0
def HiOk (v:Option Value) (hi len:Nat):Prop:=match v with | some o=>o=.int .i64 hi | none=>hi=len
theorem run_bounds{isS:Bool}{lo hi m:Nat}{vl vh vm:Option Value} (hs:vm.isSome=true→vh.isSome=true)
  (hl:LoOk vl lo) (hh:HiOk vh hi len) (hm:HiOk vm m cap)
  (h1 : lo ≤ hi) (h2 : hi ≤ m) (h3 : m ≤ cap) : (Instr.sliceBounds isS len cap vl vh vm).run P w = .ok (lo, hi, m) w := by
 cases vl <;> cases vh <;> cases vm <;> simp only[LoOk,HiOk] at hl hh hm <;>
  first
  | (exfalso;simp at hs;done)
  | (try subst hl; try subst hh; try subst hm; simp [Instr.sliceBounds, Instr.sliceBound, asIntOf, *])
theorem cut_addr{bk off lo m n:Nat}:(if m=lo then (some ⟨bk,off,none⟩:Option Addr) else Option.map (fun(x:Addr)=>x.add (lo*n)) (some ⟨bk,off,none⟩))=some ⟨bk,if m=lo then off else off+lo*n,none⟩:=by
 split <;> simp[add_off]
theorem cut_addr' {bk off lo m n:Nat}:(if m=lo then (⟨bk,off,none⟩:Addr) else Addr.add ⟨bk,off,none⟩ (lo*n))=⟨bk,if m=lo then off else off+lo*n,none⟩:=by
 split <;> simp[add_off]
theorem run_sliceSl{agg:Bool}{n bytes:Nat}{zs:List Value}{bk off lo hi m:Nat}{xl xh xm:Option Operand} (ht:P.underlying T=some (.slice E)) (hE:Ty P E agg n bytes zs) (hx:ev f x=.slice (some ⟨bk,off,none⟩) len cap)
  (hl:LoOk (xl.map (ev f)) lo) (hh:HiOk (xh.map (ev f)) hi len) (hm:HiOk (xm.map (ev f)) m cap) (hs:xm.isSome=true→xh.isSome=true)
  (h1:lo≤hi) (h2:hi≤m) (h3:m≤cap) :
  (execOp (ev f) ⟨d,.slice T x xl xh xm,ty,pos,af,none⟩).run P w=.ok (.value (cutSl n bk off lo hi m)) w:=by
 have hb:=run_bounds (P:=P) (w:=w) (isS:=true) (by simpa using hs) hl hh hm h1 h2 h3
 simp only[execOp,hx,Instr.sliceAt,Instr.slice,Sem.run_bind,run_underlying ht,Result.andThen_ok,hb,run_sizeOf hE,Sem.run_pure,cutSl,cut_addr]
theorem run_sliceSl0{agg:Bool}{n bytes:Nat}{zs:List Value}{bk off hi m:Nat}{xh xm:Option Operand} (ht:P.underlying T=some (.slice E)) (hE:Ty P E agg n bytes zs) (hx:ev f x=.slice (some ⟨bk,off,none⟩) len cap)
  (hh:HiOk (xh.map (ev f)) hi len) (hm:HiOk (xm.map (ev f)) m cap) (hs:xm.isSome=true→xh.isSome=true)
  (h2:hi≤m) (h3:m≤cap) :
  (execOp (ev f) ⟨d,.slice T x none xh xm,ty,pos,af,none⟩).run P w=.ok (.value (.slice (some ⟨bk,off,none⟩) hi m)) w:=by
 rw[run_sliceSl (lo:=0) (xl:=none) ht hE hx rfl hh hm hs (Nat.zero_le _) h2 h3]
 simp[cutSl]
theorem run_sliceArr{agg:Bool}{n bytes:Nat}{zs:List Value}{bk off lo hi m:Nat}{xl xh:Option Operand} (ht:P.underlying T=some (.array m E)) (hE:Ty P E agg n bytes zs) (hx:ev f x=.pointer (some ⟨bk,off,none⟩))
  (hl:LoOk (xl.map (ev f)) lo) (hh:HiOk (xh.map (ev f)) hi m)
  (h1:lo≤hi) (h2:hi≤m) :
  (execOp (ev f) ⟨d,.slice T x xl xh none,ty,pos,af,none⟩).run P w=.ok (.value (cutSl n bk off lo hi m)) w:=by
 have hb:=run_bounds (P:=P) (w:=w) (isS:=false) (len:=m) (cap:=m) (vl:=xl.map (ev f)) (vh:=xh.map (ev f)) (vm:=none) (by simp) hl hh rfl h1 h2 (Nat.le_refl _)
 simp only[execOp,hx,Instr.sliceAt,Instr.sureAddr,Option.map_none,Sem.run_bind,run_underlying ht,Result.andThen_ok,hb,run_sizeOf hE,Sem.run_pure,cutSl,cut_addr']
theorem run_sliceNil{agg:Bool}{n bytes:Nat}{zs:List Value}{xl xh:Option Operand} (ht:P.underlying T=some (.slice E)) (hE:Ty P E agg n bytes zs) (hx:ev f x=.slice none 0 0)
  (hl:LoOk (xl.map (ev f)) 0) (hh:HiOk (xh.map (ev f)) 0 0) :
  (execOp (ev f) ⟨d,.slice T x xl xh none,ty,pos,af,none⟩).run P w=.ok (.value (.slice none 0 0)) w:=by
 have hb:=run_bounds (P:=P) (w:=w) (isS:=true) (len:=0) (cap:=0) (lo:=0) (hi:=0) (m:=0) (vl:=xl.map (ev f)) (vh:=xh.map (ev f)) (vm:=none) (by simp) hl hh rfl (Nat.le_refl _) (Nat.le_refl _) (Nat.le_refl _)
 simp only[execOp,hx,Instr.sliceAt,Instr.slice,Option.map_none,Sem.run_bind,run_underlying ht,Result.andThen_ok,hb,run_sizeOf hE,Sem.run_pure]
 rfl
end slices
section bools
variable{a b:Bool}
theorem run_neqB (hT:P.underlying T=some .bool) (hx:ev f x=.bool a) (hy:ev f y=.bool b):(execOp (ev f) ⟨d,.binOp .neq T x y T',ty,pos,af,none⟩).run P w=.ok (.value (.bool (a != b))) w:=by
 have h0:∀d,(Op.equalIn (d+1) T (.bool a) (.bool b)).run P w=.ok (a == b) w:=fun d=>by simp[Op.equalIn,run_underlying hT]
 have h:(Op.equal T (.bool a) (.bool b)).run P w=.ok (a == b) w:=h0 9999
 simp[execOp,hx,hy,eqGuard,binOp,h]
 cases a <;> cases b <;> rfl
end bools
theorem run_field{bk off:Nat}{i o':Nat}{fs:Array Field}{fd:Field}{agg:Bool}{n bytes:Nat}{zs:List Value} (ht:P.underlying T=some (.struct fs)) (hf:fs[i]?=some fd) (hE:Ty P fd.type agg n bytes zs) (hn:Nat.beq n 0=false) (ho:fd.offset=o') (hx:ev f x=.pointer (some ⟨bk,off,none⟩)) :
  (execOp (ev f) ⟨d,.fieldAddr T x i,ty,pos,af,none⟩).run P w =   .ok (.value (.pointer (some ⟨bk,off+o',none⟩))) w:=by
 subst ho
 have hn':n≠0:=fun e=>by subst e;cases hn
 simp[execOp,hx,Instr.fieldAt,run_underlying ht,hf,Instr.sureAddr,fieldPlace,run_sizeOf hE,hn',add_off]
section loads
variable{agg:Bool}{n bytes:Nat}{zs:List Value}
theorem run_isAgg (hT:Ty P T agg n bytes zs) (w:World):(isAgg T).run P w=.ok agg w:=by
 have ob:=hT.und
 obtain⟨d,hd,hm⟩:=ob
 simp only[isAgg,Sem.run_bind,run_underlying hd,Result.andThen_ok]
 cases d <;> simp only[isAggD] at hm <;> subst hm <;> rfl
theorem run_load1{A:Addr}{v:Value} (hT:Ty P T false n bytes zs) (hx:ev f x=.pointer (some A)) (hv:w.cell? A=some v) :
  (execOp (ev f) ⟨d,.load T x,ty,pos,af,none⟩).run P w=.ok (.value v) w:=by
 simp[execOp,hx,Instr.loadAt,Instr.sureAddr,loadVar,run_isAgg hT,hv]
theorem run_loadCells_at{bk off:Nat}{cs:List Value} (h:At w bk off cs):(loadCells ⟨bk,off,none⟩ cs.length).run P w=.ok cs.toArray w:=
 run_loadCells_list w _ cs fun j v hj=>by rw[add_off];exact h j v hj
theorem run_loadVar1{A:Addr}{v:Value} (hT:Ty P T false n bytes zs) (hv:w.cell? A=some v):(loadVar T A).run P w=.ok v w:=by
 simp[loadVar,run_isAgg hT,hv]
theorem run_loadVarN{bk off:Nat}{cs:List Value} (hT:Ty P T true n bytes zs) (hl:cs.length=n) (h:At w bk off cs):(loadVar T ⟨bk,off,none⟩).run P w=.ok (.agg cs.toArray) w:=by
 simp only[loadVar,Sem.run_bind,run_isAgg hT,Result.andThen_ok,if_true,run_sizeOf hT,←hl,run_loadCells_at h,Sem.run_pure]
theorem run_loadN{bk off:Nat}{cs:List Value} (hT:Ty P T true n bytes zs) (hx:ev f x=.pointer (some ⟨bk,off,none⟩)) (hl:cs.length=n) (h:At w bk off cs) :
  (execOp (ev f) ⟨d,.load T x,ty,pos,af,none⟩).run P w=.ok (.value (.agg cs.toArray)) w:=by
 simp[execOp,hx,Instr.loadAt,Instr.sureAddr,run_loadVarN hT hl h]
end loads
structure En (P:Program) (F:FuncId):Prop where
 ok : ∃ fn, P.funcs[F]? = some fn ∧ fn.body.isNone = false ∧ (fn.name == "runtime.NumGoroutine") = false
theorem run_call{F:FuncId}{fo:Operand}{args:Array Operand}{ats:Array TypeId}{vs:List Value} (hF:En P F)
  (hx:ev f fo=.func (.func F) #[] #[]) (hv:args.toList.map (ev f)=vs) :
  (execOp (ev f) ⟨d,.call { callee:=.value fo,args,argTypes:=ats },ty,pos,af,none⟩).run P w=.ok (.enter F vs.toArray) w:=by
 have e:args.map (ev f)=vs.toArray:=by rw[←hv];apply Array.ext';simp
 have ob:=hF.ok
 obtain⟨fn,hf,hb,hn⟩:=ob
 have hcf:∀vas:Array Value,(callFunc F vas).run P w=.ok (.enter F vas) w:=fun vas=>by
  simp only[callFunc,Sem.run_bind,run_program,Result.andThen_ok,hf,hn,hb,Bool.false_eq_true,if_false,Sem.run_pure]
 simp[execOp,resolve,hx,Deferred.ofValue,invoke,hcf,e]
theorem run_makeFunc{fnv:Fn}{first captured:Array Operand}:(execOp (ev f) ⟨d,.makeFunc fnv first captured,ty,pos,af,none⟩).run P w=.ok (.value (.func fnv (first.map (ev f)) (captured.map (ev f)))) w:=by
 simp[execOp,Instr.makeFunc]
end
def Cell1 (v:Value):Prop:=v.oneCell'=true
def Cells1 (vs:List Value):Prop:=∀v∈vs,v.oneCell'=true
theorem Cells1.u8s (l:List UInt8):Cells1 (u8s l):=by
 intro v hv
 have ob:=List.mem_map.1 hv
 obtain⟨c,_,rfl⟩:=ob
 rfl
theorem Cells1.append{a b:List Value} (ha:Cells1 a) (hb:Cells1 b):Cells1 (a++b):=fun v hv=>by
 rcases List.mem_append.1 hv with h | h
 ·exact ha v h
 ·exact hb v h
theorem Cells1.of_all{vs:List Value} (h:(vs.all fun v=>v.oneCell')=true):Cells1 vs:=fun v hv=>List.all_eq_true.1 h v hv
theorem Cells1.take{a:List Value} (ha:Cells1 a) (k:Nat):Cells1 (a.take k):=fun v hv=>ha v (List.mem_of_mem_take hv)
theorem cells_one{v:Value} (h:v.oneCell'=true):v.cells=#[v]:=by cases v <;> first | rfl | cases h
def splice (cs:List Value) (off:Nat) (vs:List Value):List Value:=cs.take off++vs++cs.drop (off+vs.length)
theorem splice_nil (cs:List Value) (off:Nat):splice cs off []=cs:=by simp[splice]
theorem splice_cons{cs:List Value}{off:Nat} (v:Value) (vs:List Value) (h:off<cs.length):splice (cs.set off v) (off+1) vs=splice cs off (v::vs):=by
 have h1:(cs.set off v).take (off+1)=cs.take off++[v]:=by
  rw[List.set_eq_take_append_cons_drop,if_pos h]
  rw[List.take_append]
  simp[List.take_take,Nat.min_eq_left (Nat.le_of_lt h)]
 have h2:(cs.set off v).drop (off+1+vs.length)=cs.drop (off+(vs.length+1)):=by
  rw[List.drop_set,if_pos (by omega)]
  congr 1
  omega
 simp only[splice,h1,h2,List.length_cons,List.append_assoc,List.cons_append,List.nil_append]
theorem splice_end (a b vs:List Value) (h:vs.length≤b.length):splice (a++b) a.length vs=a++vs++b.drop vs.length:=by
 simp[splice]
def setRow (w:World) (b off:Nat):List Value→World
 | []=>w
 | v::vs=>setRow (w.setCell ⟨b,off,none⟩ v) b (off+1) vs
theorem Step.row{S:List Nat}{L:List (Nat×Obj)}{b:Nat}{T:TypeId}{w0:World}:∀(vs:List Value) (off:Nat) (cs:List Value) (w:World),Step S ((b,blk T cs)::L) w0 w→off+vs.length≤cs.length→
  Step S ((b,blk T (splice cs off vs))::L) w0 (setRow w b off vs)
 | [],off,cs,w,h,_=>by rw[splice_nil];exact h
 | v::vs,off,cs,w,h,hl=>by
  simp only[List.length_cons] at hl
  rw[←splice_cons v vs (by omega)]
  exact Step.row vs (off+1) _ _ (h.set off v) (by simp;omega)
section
variable{P:Program}
theorem run_store1{w:World}{b off:Nat}{T:TypeId}{cs:List Value}{v:Value} (h:w.heap[b]?=some (blk T cs)) (ho:off<cs.length) (hv:v.oneCell'=true):(store ⟨b,off,none⟩ v).run P w=.ok () (w.setCell ⟨b,off,none⟩ v):=by
 rw[run_store P w _ v .plain hv,cell_blk h,List.getElem?_eq_getElem ho,frozen_blk h]
 rfl
theorem run_storeCells:∀(vs:List Value) (i off b:Nat) (T:TypeId) (cs:List Value) (w:World),w.heap[b]?=some (blk T cs)→off+i+vs.length≤cs.length→Cells1 vs→
  (storeCells ⟨b,off,none⟩ vs i).run P w=.ok () (setRow w b (off+i) vs)
 | [],i,off,b,T,cs,w,_,_,_=>by simp[storeCells,setRow]
 | v::vs,i,off,b,T,cs,w,h,hl,hc=>by
  simp only[List.length_cons] at hl
  simp only[storeCells,Sem.run_bind,add_off,run_store1 h (show off+i<cs.length by omega) (hc v (by simp)),Result.andThen_ok,setRow]
  have ih:=run_storeCells vs (i+1) off b T (cs.set (off+i) v) (w.setCell ⟨b,off+i,none⟩ v) (heap_setCell_blk w _ _ h) (by simp;omega) (fun u hu=>hc u (by simp[hu]))
  rw[ih]
  rfl
variable{ops:Array Oper}{Q:Post}{n:Nat}{rest:List Oper}{f:Slots}{ds:List Deferred}{w w0:World}{ty:TypeId}{pos:String}{af:Array Edge}{x y:Operand}{T:TypeId}{d:Nat}{S:List Nat}{L:List (Nat×Obj)}
theorem run_zero{agg:Bool}{k bytes:Nat}{zs:List Value} (hT:Ty P T agg k bytes zs) (w:World):∃z,(zeroValue T).run P w=.ok z w∧z.cells=zs.toArray:=by
 have ob:=hT.info
 obtain⟨i,z,hi,_,_,hz,hc,_⟩:=ob
 exact⟨z,by simp[zeroValue,typeInfo,hi,hz],hc⟩
theorem WL.alloc{agg:Bool}{k bytes:Nat}{zs:List Value} (hT:Ty P T agg k bytes zs) (hd:Nat.blt d n=true) (hs:Step S L w0 w)
  (h:∀b w',Step S ((b,blk T zs)::L) w0 w'→WL P ops Q n rest (upd f d (.pointer (some ⟨b,0,none⟩))) ds w'):WL P ops Q n (⟨some d,.alloc T,ty,pos,af,none⟩::rest) f ds w:=by
 have ob:=run_zero hT w
 obtain⟨z,hz,hc⟩:=ob
 refine WL.val hd (v:=.pointer (some ⟨w.heap.size,0,none⟩)) (w':=w.alloc (blk T zs)) ?_ (h _ _ (hs.alloc _))
 simp[execOp,Instr.alloc,hz,newVar,newRow,hc,blk]
theorem WL.box{v:Value}{cs:List Value} (hx:ev f x=v) (hv:v.cells=cs.toArray) (hd:Nat.blt d n=true) (hs:Step S L w0 w)
  (h:∀b w',Step S ((b,blk T cs)::L) w0 w'→WL P ops Q n rest (upd f d (.pointer (some ⟨b,0,none⟩))) ds w'):WL P ops Q n (⟨some d,.box T x,ty,pos,af,none⟩::rest) f ds w:=by
 refine WL.val hd (v:=.pointer (some ⟨w.heap.size,0,none⟩)) (w':=w.alloc (blk T cs)) ?_ (h _ _ (hs.alloc _))
 simp[execOp,hx,Instr.box,newVar,newRow,hv,blk]
theorem WL.store1{agg:Bool}{bytes:Nat}{zs cs:List Value}{b o:Nat}{T':TypeId}{v:Value} (hT:Ty P T agg 1 bytes zs) (hx:ev f x=.pointer (some ⟨b,o,none⟩)) (hy:ev f y=v) (hv:v.oneCell'=true)
  (hs:Step S ((b,blk T' cs)::L) w0 w) (ho:o<cs.length) (h:∀w',Step S ((b,blk T' (cs.set o v))::L) w0 w'→WL P ops Q n rest f ds w'):WL P ops Q n (⟨none,.store T x y,ty,pos,af,none⟩::rest) f ds w:=by
 refine WL.skip (w':=w.setCell ⟨b,o,none⟩ v) ?_ (h _ (hs.set o v))
 have hc:=cells_one hv
 simp[execOp,hx,hy,Instr.storeAt,Instr.sureAddr,storeVar,hc,run_sizeOf hT,storeCells,add_off,run_store1 hs.hd ho hv]
theorem WL.storeN{agg:Bool}{k bytes:Nat}{zs cs vs:List Value}{b o:Nat}{T':TypeId} (hT:Ty P T agg k bytes zs) (hx:ev f x=.pointer (some ⟨b,o,none⟩)) (hy:ev f y=.agg vs.toArray) (hl:vs.length=k) (hv:Cells1 vs)
  (hs:Step S ((b,blk T' cs)::L) w0 w) (ho:o+k≤cs.length) (h:∀w',Step S ((b,blk T' (splice cs o vs))::L) w0 w'→WL P ops Q n rest f ds w'):WL P ops Q n (⟨none,.store T x y,ty,pos,af,none⟩::rest) f ds w:=by
 refine WL.skip (w':=setRow w b o vs) ?_ (h _ (Step.row vs o cs w hs (by omega)))
 have hr:=run_storeCells (P:=P) vs 0 o b T' cs w hs.hd (by omega) hv
 simp only[Nat.add_zero] at hr
 simp[execOp,hx,hy,Instr.storeAt,Instr.sureAddr,storeVar,Value.cells,run_sizeOf hT,hl,hr]
theorem WL.storeAll{agg:Bool}{k bytes:Nat}{zs cs vs:List Value}{b:Nat}{T':TypeId} (hT:Ty P T agg k bytes zs) (hx:ev f x=.pointer (some ⟨b,0,none⟩)) (hy:ev f y=.agg vs.toArray) (hl:vs.length=k) (hv:Cells1 vs)
  (hs:Step S ((b,blk T' cs)::L) w0 w) (hc:cs.length=k) (h:∀w',Step S ((b,blk T' vs)::L) w0 w'→WL P ops Q n rest f ds w'):WL P ops Q n (⟨none,.store T x y,ty,pos,af,none⟩::rest) f ds w:=
 WL.storeN hT hx hy hl hv hs (by omega) fun w' hs'=>h w' (by
  have:splice cs 0 vs=vs:=by simp[splice,List.drop_of_length_le (show cs.length≤vs.length by omega)]
  rwa [this] at hs')
theorem run_build{parts:Array (Nat×Operand)}{vs:List (Nat×Value)}{v:Value}{d:Option Tmp} (hv:parts.toList.map (fun p=>(p.1,ev f p.2))=vs) (hb:(Instr.build T vs.toArray).run P w=.ok v w) :
  (execOp (ev f) ⟨d,.build T parts,ty,pos,af,none⟩).run P w=.ok (.value v) w:=by
 have e:(parts.map fun(p:Nat×Operand)=>(p.1,ev f p.2))=vs.toArray:=by rw[←hv];apply Array.ext';simp
 simp only[execOp]
 have e':(parts.map fun x=>match x with | (i,x)=>(i,ev f x))=vs.toArray:=e
 rw[e']
 simp[hb]
theorem zero_row (zs:List Value) (len:Nat):((Array.range (len*zs.length)).map (fun i=>zs.toArray[i % zs.toArray.size]!))=(List.replicate len zs).flatten.toArray:=by
 apply Array.ext'
 rw[Array.toList_map,Array.toList_range]
 show _=(List.replicate len zs).flatten
 apply List.ext_getElem?
 intro j
 have hsz:zs.toArray.size=zs.length:=by simp
 rw[hsz]
 by_cases hj:j<len*zs.length
 ·have hz:0<zs.length:=by
   rcases Nat.eq_zero_or_pos zs.length with h | h
   ·rw[h] at hj;simp at hj
   ·exact h
  have hm:=Nat.mod_lt j hz
  rw[List.getElem?_map,List.getElem?_range hj,Option.map_some]
  rw[getElem!_pos zs.toArray _ (by simpa using hm)]
  have:∀(len j:Nat),j<len*zs.length→(List.replicate len zs).flatten[j]?=some (zs[j % zs.length]'(Nat.mod_lt _ hz)):=by
   intro len
   induction len with
   | zero=>intro j hj;simp at hj
   | succ k ih=>
    intro j hj
    rw[List.replicate_succ,List.flatten_cons]
    by_cases h1:j<zs.length
    ·rw[List.getElem?_append_left h1,List.getElem?_eq_getElem h1]
     simp[Nat.mod_eq_of_lt h1]
    ·rw[List.getElem?_append_right (by omega),ih _ (by rw[Nat.succ_mul] at hj;omega)]
     simp[Nat.mod_eq_sub_mod (Nat.le_of_not_lt h1)]
  rw[this len j hj]
  simp
 ·rw[List.getElem?_eq_none (by simpa using hj),List.getElem?_eq_none]
  simp only[List.length_flatten,List.map_replicate,List.sum_replicate_nat]
  omega
def Filled (sz len:Nat) (zs:List Value) (vs:List (Nat×Value)) (cs:List Value):Prop:=
 Instr.fill (fun i=>some (i*sz,sz)) (List.replicate len zs).flatten.toArray vs=some cs.toArray
theorem WL.buildSlice{agg:Bool}{sz bytes len:Nat}{zs cs:List Value}{E:TypeId}{parts:Array (Nat×Operand)}{vs:List (Nat×Value)} (ht:P.underlying T=some (.slice E)) (hE:Ty P E agg sz bytes zs) (hz:zs.length=sz)
  (hlen:len*sz≤16777216) (hv:parts.toList.map (fun p=>(p.1,ev f p.2))=vs) (hf:Filled sz len zs vs cs) (hd:Nat.blt d n=true) (hs:Step S L w0 w)
  (h:∀b w',Step S ((b,blk E cs)::L) w0 w'→WL P ops Q n rest (upd f d (.slice (some ⟨b,0,none⟩) len len)) ds w'):WL P ops Q n (⟨some d,.buildSlice T len parts,ty,pos,af,none⟩::rest) f ds w:=by
 have e:(parts.map fun x=>match x with | (i,x)=>(i,ev f x))=vs.toArray:=by rw[←hv];apply Array.ext';simp
 refine WL.val hd (v:=.slice (some ⟨w.heap.size,0,none⟩) len len) (w':=w.alloc (blk E cs)) ?_ (h _ _ (hs.alloc _))
 have ob:=run_zero hE w
 obtain⟨z,hzr,hc⟩:=ob
 unfold Filled at hf
 have hbig:¬len*sz > 2 ^ 24:=by omega
 by_cases h0:len*sz=0
 ·have hfl:(List.replicate len zs).flatten=[]:=by
   apply List.eq_nil_of_length_eq_zero
   simp only[List.length_flatten,List.map_replicate,List.sum_replicate_nat,hz,h0]
  rw[hfl] at hf
  have hr0:Array.map (fun(x:Nat)=>(default:Value)) (Array.range 0)=#[]:=by rw[Array.range_zero'];simp
  simp[execOp,e,Instr.buildSlice,run_underlying ht,run_sizeOf hE,h0,hr0,hf,newRow,blk]
 ·have hrow:=zero_row zs len
  rw[hz] at hrow
  have h1:¬(len=0∨sz=0):=fun h=>h0 (by rcases h with h | h <;> simp[h])
  simp only[execOp,e,Instr.buildSlice,Sem.run_bind,run_underlying ht,Result.andThen_ok,run_sizeOf hE,if_neg hbig,if_neg h0,hzr,Sem.run_pure,hc,hrow,hf,newRow,run_newObj,blk]
  rfl
theorem WL.makeSlice{agg:Bool}{sz bytes k:Nat}{zs:List Value}{E:TypeId} (ht:P.underlying T=some (.slice E)) (hE:Ty P E agg sz bytes zs) (hz:zs.length=sz) (hb:bytes*k≤281474976710656) (hb0:0<bytes)
  (hx:ev f x=.int .i64 k) (hy:ev f y=.int .i64 k) (hd:Nat.blt d n=true) (hs:Step S L w0 w)
  (h:∀b w',Step S ((b,blk E (List.replicate k zs).flatten)::L) w0 w'→WL P ops Q n rest (upd f d (.slice (some ⟨b,0,none⟩) k k)) ds w'):WL P ops Q n (⟨some d,.makeSlice T x y,ty,pos,af,none⟩::rest) f ds w:=by
 refine WL.val hd (v:=.slice (some ⟨w.heap.size,0,none⟩) k k) (w':=w.alloc (blk E (List.replicate k zs).flatten)) ?_ (h _ _ (hs.alloc _))
 have ob:=hE.info
 obtain⟨i,z0,hi,hsz,hby,hz0,hc0,_⟩:=ob
 have hk:k≤281474976710656:=Nat.le_trans (by have:=Nat.mul_le_mul_right k hb0;omega) hb
 have hw:IntKind.i64.wrap (k:Int)=k:=wrap_i64 (by omega)
 have hti:(typeInfo E).run P w=.ok i w:=by simp[typeInfo,hi]
 have ob:=run_zero hE w
 obtain⟨z,hzr,hc⟩:=ob
 have hnl:(decide ((k:Int)<0) || decide ((i.bytes:Int)*(k:Int) > 2 ^ 48))=false:=by
  have h1:¬((k:Int)<0):=by omega
  have h2:¬((i.bytes:Int)*(k:Int) > 2 ^ 48):=by
   rw[hby]
   have:((bytes*k:Nat):Int)≤((281474976710656:Nat):Int):=Int.ofNat_le.2 hb
   rw[Int.natCast_mul] at this
   have e48:(2:Int) ^ 48=281474976710656:=by decide
   rw[e48]
   omega
  rw[decide_eq_false h1,decide_eq_false h2]
  rfl
 simp only[execOp,hx,hy,Instr.makeSlice,Sem.run_bind,run_underlying ht,Result.andThen_ok,asInt,asIntOf,Sem.run_pure,hti,hw]
 rw[if_neg (by rw[hnl];simp)]
 by_cases h0:k*sz=0
 ·have hfl:(List.replicate k zs).flatten=[]:=by
   apply List.eq_nil_of_length_eq_zero
   simp only[List.length_flatten,List.map_replicate,List.sum_replicate_nat,hz,h0]
  have hr0:Array.map (fun(x:Nat)=>(default:Value)) (Array.range 0)=#[]:=by rw[Array.range_zero'];simp
  simp[run_sizeOf hE,h0,newRow,blk,hfl,hr0]
 ·have hrow:=zero_row zs k
  rw[hz] at hrow
  simp only[Sem.run_bind,run_askRoom,Result.andThen_ok,run_sizeOf hE,Int.toNat_natCast,if_neg h0,hzr,hc,Sem.run_pure,hrow,newRow,run_newObj,blk]
  rfl
def OwnSl (E:TypeId) (sz:Nat) (v:Value) (k:Nat) (xs:List Value) (Lv:List (Nat×Obj)):Prop:=
 xs.length=k*sz∧((v=.slice none 0 0∧k=0∧Lv=[])∨∃b cap more,v=.slice (some ⟨b,0,none⟩) k cap∧Lv=[(b,blk E (xs++more))]∧(xs++more).length=cap*sz)
theorem OwnSl.nil (E:TypeId) (sz:Nat):OwnSl E sz (.slice none 0 0) 0 [] []:=⟨by simp,.inl ⟨rfl,rfl,rfl⟩⟩
theorem OwnSl.mk{E:TypeId}{sz b k:Nat}{xs:List Value} (h:xs.length=k*sz):OwnSl E sz (.slice (some ⟨b,0,none⟩) k k) k xs [(b,blk E xs)]:=
 ⟨h,.inr ⟨b,k,[],rfl,by simp,by simpa using h⟩⟩
theorem OwnSl.sl{E:TypeId}{sz:Nat}{v:Value}{k:Nat}{xs:List Value}{Lv:List (Nat×Obj)} (h:OwnSl E sz v k xs Lv) (hs:Step S (Lv++L) w0 w):Sl w sz v k xs:=by
 obtain⟨hl,⟨rfl,rfl,rfl⟩ | ⟨b,cap,more,rfl,rfl,hc⟩⟩:=h
 ·exact⟨hl,.inl ⟨none,0,rfl,rfl⟩⟩
 ·exact .mk hl (At.of_blk hs.hd).left
theorem OwnSl.form{E:TypeId}{sz:Nat}{v:Value}{k:Nat}{xs:List Value}{Lv:List (Nat×Obj)} (h:OwnSl E sz v k xs Lv):∃a c,v=.slice a k c:=by
 obtain⟨hl,⟨rfl,rfl,rfl⟩ | ⟨b,cap,more,rfl,rfl,hc⟩⟩:=h
 ·exact⟨_,_,rfl⟩
 ·exact⟨_,_,rfl⟩
theorem run_firstCells{sz k:Nat}{u:Value}{ys:List Value} (h:Sl w sz u k ys):(Builtin.firstCells sz k u).run P w=.ok ys.toArray w:=by
 obtain⟨hl,⟨a,c,rfl,rfl⟩ | ⟨b,off,c,rfl,h⟩⟩:=h
 ·have:ys=[]:=by simpa using hl
  subst this
  cases a <;> simp[Builtin.firstCells,loadCells] <;> rfl
 ·simp only[Builtin.firstCells,←hl]
  exact run_loadCells_at h
theorem run_lenOf{sz k:Nat}{u:Value}{ys:List Value} (h:Sl w sz u k ys):(Builtin.lenOf u).run P w=.ok k w:=by
 obtain⟨hl,⟨a,c,rfl,rfl⟩ | ⟨b,off,c,rfl,h⟩⟩:=h <;> rfl
theorem run_firstCells_drew{sz k:Nat}{u:Value}{ys:List Value} (h:Sl w sz u k ys):(Builtin.firstCells sz k u).run P w.drew=.ok ys.toArray w.drew:=
 run_firstCells (w:=w.drew) (by
  obtain⟨hl,h | ⟨b,off,c,rfl,h⟩⟩:=h
  ·exact⟨hl,.inl h⟩
  ·exact⟨hl,.inr ⟨b,off,c,rfl,h⟩⟩)
def SrcT (P:Program) (T:TypeId):Prop:=(∃e,P.underlying T=some (.slice e))∨P.underlying T=some .string
theorem run_append_nil0{agg:Bool}{sz bytes:Nat}{zs:List Value}{E T':TypeId}{u:Value} (ht:P.underlying T=some (.slice E)) (hz':SrcT P T') (hE:Ty P E agg sz bytes zs) (hul:(Builtin.lenOf u).run P w=.ok 0 w) (hu:(Builtin.firstCells sz 0 u).run P w=.ok #[] w) :
  (Builtin.append_ #[T,T'] ty #[.slice none 0 0,u]).run P w=.ok (.slice none 0 0) w:=by
 rcases hz' with⟨e,hz'⟩ | hz' <;> simp[Builtin.append_,run_underlying ht,run_underlying hz',run_sizeOf hE,hul,hu]
theorem run_append_in{agg:Bool}{sz bytes k m cap b:Nat}{zs ys:List Value}{E T':TypeId}{u:Value} (ht:P.underlying T=some (.slice E)) (hz':SrcT P T') (hE:Ty P E agg sz bytes zs) (hul:(Builtin.lenOf u).run P w=.ok m w) (hu:(Builtin.firstCells sz m u).run P w=.ok ys.toArray w) (hfit:k+m≤cap) :
  (Builtin.append_ #[T,T'] ty #[.slice (some ⟨b,0,none⟩) k cap,u]).run P w=((storeCells ⟨b,k*sz,none⟩ ys 0).run P w).andThen fun _ w'=>.ok (.slice (some ⟨b,0,none⟩) (k+m) cap) w':=by
 rcases hz' with⟨e,hz'⟩ | hz' <;> simp[Builtin.append_,run_underlying ht,run_underlying hz',run_sizeOf hE,hul,hu,hfit,add_off]
theorem run_append_new{agg:Bool}{sz bytes k m cap:Nat}{zs xs ys:List Value}{E T':TypeId}{a:Option Addr}{u:Value} (ht:P.underlying T=some (.slice E)) (hz':SrcT P T') (hE:Ty P E agg sz bytes zs) (hb0:0<bytes) (hul:(Builtin.lenOf u).run P w=.ok m w) (hud:(Builtin.firstCells sz m u).run P w.drew=.ok ys.toArray w.drew)
  (hold:(Builtin.firstCells sz k (.slice a k cap)).run P w.drew=.ok xs.toArray w.drew) (hfit:cap<k+m) (hroom:(k+m)*bytes≤140737488355328) :
  (Builtin.append_ #[T,T'] ty #[.slice a k cap,u]).run P w=.ok (.slice (some ⟨w.heap.size,0,none⟩) (k+m) (grownCap w (k+m) cap E)) (w.drew.alloc (blk E (xs++ys++(List.replicate (grownCap w (k+m) cap E - (k+m)) zs).flatten))):=by
 have ob:=hE.info
 obtain⟨i,z0,hi,hsz,hby,hz0,hc0,_⟩:=ob
 have hn:¬(k+m≤cap):=by omega
 have h63':¬(9223372036854775807<((k:Int)+(m:Int))):=by
  have:(k+m)*1≤(k+m)*bytes:=Nat.mul_le_mul_left _ hb0
  omega
 have h48':¬(281474976710656<Builtin.nextslicecap (k+m) cap*i.bytes):=by
  rw[hby]
  have:=growslice_fits (old:=cap) (bytes:=bytes) (need:=k+m) (by omega) hroom
  omega
 have hzc:∀j,Builtin.zeroCells z0.cells j=((List.replicate j zs).flatten).toArray:=fun j=>by
  rw[hc0]
  have:=zero_row zs j
  simpa[Builtin.zeroCells] using this
 have hblk:∀l:List Value,Obj.cells l.toArray E=blk E l:=fun l=>rfl
 subst hsz
 rcases hz' with⟨e,hz'⟩ | hz' <;>
  simp[Builtin.append_,run_underlying ht,run_underlying hz',sizeOf,typeInfo,zeroValue,hi,hz0,hul,hud,hn,h63',h48',Question.forced,hold,newRow,grownCap,hzc,hblk]
theorem run_append{agg:Bool}{sz bytes k m:Nat}{zs xs ys:List Value}{E T':TypeId}{v u:Value}{Lv:List (Nat×Obj)} (ht:P.underlying T=some (.slice E)) (hz':SrcT P T') (hE:Ty P E agg sz bytes zs) (hzl:zs.length=sz) (hb0:0<bytes)
  (hv:OwnSl E sz v k xs Lv) (hs:Step S (Lv++L) w0 w) (hul:(Builtin.lenOf u).run P w=.ok m w) (hu:(Builtin.firstCells sz m u).run P w=.ok ys.toArray w) (hud:(Builtin.firstCells sz m u).run P w.drew=.ok ys.toArray w.drew) (hly:ys.length=m*sz) (hc1:Cells1 ys) (hroom:(k+m)*bytes≤140737488355328) :
  ∃v' Lv' w',(Builtin.append_ #[T,T'] ty #[v,u]).run P w=.ok v' w'∧OwnSl E sz v' (k+m) (xs++ys) Lv'∧Step S (Lv'++L) w0 w':=by
 have hsl:=hv.sl hs
 obtain⟨hl,hcase⟩:=hv
 obtain⟨a,cap,rfl⟩:∃a cap,v=.slice a k cap:=by
  rcases hcase with⟨rfl,rfl,rfl⟩ | ⟨b,cap,more,rfl,rfl,hcap⟩ <;> exact⟨_,_,rfl⟩
 by_cases hfit:k+m≤cap
 ·rcases hcase with⟨h1,rfl,rfl⟩ | ⟨b,cap',more,h1,rfl,hcap⟩
  ·injection h1 with h1 h2 h3
   subst h1;subst h3
   have hm:m=0:=by omega
   subst hm
   have hys:ys=[]:=by simpa using hly
   subst hys
   exact⟨.slice none 0 0,[],w,run_append_nil0 ht hz' hE hul hu,⟨by simpa using hl,.inl ⟨by simp,rfl,rfl⟩⟩,hs⟩
  ·injection h1 with h1 h2 h3
   subst h1;subst h3
   have hlm:(xs++more).length=xs.length+more.length:=by simp
   have hle:ys.length≤more.length:=by
    have:(k+m)*sz≤cap*sz:=Nat.mul_le_mul_right _ hfit
    rw[Nat.add_mul] at this
    omega
   have hst:=run_storeCells (P:=P) ys 0 (k*sz) b E (xs++more) w hs.hd (by rw[hlm];omega) hc1
   refine⟨.slice (some ⟨b,0,none⟩) (k+m) cap,[(b,blk E (xs++ys++more.drop ys.length))],setRow w b (k*sz+0) ys,?_,⟨by simp[hl,hly,Nat.add_mul],.inr ⟨b,cap,more.drop ys.length,rfl,rfl,?_⟩⟩,?_⟩
   ·rw[run_append_in ht hz' hE hul hu hfit,hst]
    rfl
   ·simp only[List.length_append,List.length_drop] at hcap⊢
    omega
   ·have:=Step.row ys (k*sz) (xs++more) w hs (by rw[hlm];omega)
    rw[←hl,splice_end xs more ys hle] at this
    rw[Nat.add_zero,←hl]
    exact this
 ·have hle:k+m≤grownCap w (k+m) cap E:=by unfold grownCap Question.cut;exact Nat.le_add_right _ _
  refine⟨_,[(w.heap.size,_)],_,run_append_new ht hz' hE hb0 hul hud (run_firstCells_drew hsl) (by omega) hroom,⟨by simp[hl,hly,Nat.add_mul],.inr ⟨_,_,_,rfl,rfl,?_⟩⟩,hs.dropL.drew.alloc _⟩
  simp only[List.length_append,List.length_flatten,List.map_replicate,List.sum_replicate_nat,hl,hly,hzl,←Nat.add_mul]
  congr 1
  omega
theorem WL.append{agg:Bool}{sz bytes k m:Nat}{zs xs ys:List Value}{E T':TypeId}{v u:Value}{Lv:List (Nat×Obj)} (ht:P.underlying T=some (.slice E)) (ht':P.underlying T'=some (.slice E)) (hE:Ty P E agg sz bytes zs) (hzl:zs.length=sz) (hb0:0<bytes)
  (hx:ev f x=v) (hy:ev f y=u) (hv:OwnSl E sz v k xs Lv) (hs:Step S (Lv++L) w0 w) (hu:Sl w sz u m ys) (hc1:Cells1 ys) (hroom:(k+m)*bytes≤140737488355328) (hd:Nat.blt d n=true)
  (h:∀v' Lv' w',OwnSl E sz v' (k+m) (xs++ys) Lv'→Step S (Lv'++L) w0 w'→WL P ops Q n rest (upd f d v') ds w') :
  WL P ops Q n (⟨some d,.call { callee:=.builtin .append,args:=#[x,y],argTypes:=#[T,T'] },ty,pos,af,none⟩::rest) f ds w:=by
 have ob:=run_append (ty:=ty) ht (.inl ⟨E,ht'⟩) hE hzl hb0 hv hs (run_lenOf hu) (run_firstCells hu) (run_firstCells_drew hu) hu.1 hc1 hroom
 obtain⟨v',Lv',w',hr,ho,hst⟩:=ob
 refine WL.val hd ?_ (h v' Lv' w' ho hst)
 simp[execOp,hx,hy,resolve,invoke,builtin,hr]
theorem WL.copy{agg:Bool}{sz bytes len cap m b off:Nat}{zs cs ys:List Value}{E T' Tb:TypeId}{u:Value}{dd:Option Nat} (ht:P.underlying T=some (.slice E)) (hE:Ty P E agg sz bytes zs)
  (hx:ev f x=.slice (some ⟨b,off,none⟩) len cap) (hy:ev f y=u) (hs:Step S ((b,blk Tb cs)::L) w0 w) (hu:Sl w sz u m ys) (hc1:Cells1 ys) (hlen:off+len*sz≤cs.length) (hd:∀k,dd=some k→Nat.blt k n=true)
  (h:∀w',Step S ((b,blk Tb (splice cs off (ys.take (min m len*sz))))::L) w0 w'→(∀k,dd=some k→WL P ops Q n rest (upd f k (.int .i64 (min m len:Nat))) ds w')∧(dd=none→WL P ops Q n rest f ds w')) :
  WL P ops Q n (⟨dd,.call { callee:=.builtin .copy,args:=#[x,y],argTypes:=#[T,T'] },ty,pos,af,none⟩::rest) f ds w:=by
 have hly:=hu.1
 have htl:(ys.take (min m len*sz)).length=min m len*sz:=by
  rw[List.length_take,hly]
  exact Nat.min_eq_left (Nat.mul_le_mul_right _ (Nat.min_le_left _ _))
 have hle:min m len*sz≤len*sz:=Nat.mul_le_mul_right _ (Nat.min_le_right _ _)
 have hf:(Builtin.firstCells sz (min m len) u).run P w=.ok (ys.take (min m len*sz)).toArray w:=by
  obtain⟨_,⟨a,c,rfl,rfl⟩ | ⟨b',off',c,rfl,hat⟩⟩:=hu
  ·have:ys=[]:=by simpa using hly
   subst this
   cases a <;> simp[Builtin.firstCells,loadCells] <;> rfl
  ·have:=run_loadCells_at (P:=P) (hat.take (min m len*sz))
   rw[htl] at this
   simpa[Builtin.firstCells] using this
 have hst:=run_storeCells (P:=P) (ys.take (min m len*sz)) 0 off b Tb cs w hs.hd (by rw[htl];omega) (hc1.take _)
 have hrun:(execOp (ev f) ⟨dd,.call { callee:=.builtin .copy,args:=#[x,y],argTypes:=#[T,T'] },ty,pos,af,none⟩).run P w=.ok (.value (.int .i64 (min m len:Nat))) (setRow w b (off+0) (ys.take (min m len*sz))):=by
  have hmin:Nat.min m len=min m len:=rfl
  simp[execOp,hx,hy,resolve,invoke,builtin,Builtin.copy_,run_underlying ht,run_sizeOf hE,run_lenOf hu,hmin,hf,hst,goInt]
 have hstep:=Step.row (ys.take (min m len*sz)) off cs w hs (by rw[htl];omega)
 have ob:=h _ hstep
 obtain⟨h1,h2⟩:=ob
 cases dd with
 | none=>exact WL.drop hrun (h2 rfl)
 | some k=>exact WL.val (hd k rfl) hrun (h1 k rfl)
theorem WL.toBytes {E T':TypeId}{s:List UInt8} (ht:P.underlying T=some .string) (ht':P.underlying T'=some (.slice E)) (hE:P.underlying E=some (.int .u8))
  (hx:ev f x=str s) (hd:Nat.blt d n=true) (hs:Step S L w0 w)
  (h:∀b cap more w',s.length≤cap→Step S ((b,blkM E (u8s s++more))::L) w0 w'→WL P ops Q n rest (upd f d (.slice (some ⟨b,0,none⟩) s.length cap)) ds w') :
  WL P ops Q n (⟨some d,.convert T T' x,ty,pos,af,none⟩::rest) f ds w:=by
 have hle:s.length≤grownCap w s.length 0 E:=by unfold grownCap Question.cut;exact Nat.le_add_right _ _
 have hcells:bytesRow (ByteArray.mk ⟨s⟩) (grownCap w s.length 0 E)=(u8s s++List.replicate (grownCap w s.length 0 E - s.length) (Value.int .u8 0)).toArray:=by
  apply Array.ext'
  have hsz:(ByteArray.mk ⟨s⟩).size=s.length:=rfl
  simp[bytesRow,u8s,hsz]
 have hconv:=run_bytes_of_string (P:=P) w T T' E (ByteArray.mk ⟨s⟩) ht ht' hE
 have hsz:(ByteArray.mk ⟨s⟩).size=s.length:=rfl
 rw[hsz,hcells] at hconv
 refine WL.val hd (v:=.slice (some ⟨w.heap.size,0,none⟩) s.length (grownCap w s.length 0 E)) (w':=w.drew.alloc (blkM E (u8s s++List.replicate (grownCap w s.length 0 E - s.length) (Value.int .u8 0)))) ?_ (h _ _ _ _ hle (hs.drew.alloc _))
 simp only[execOp,hx,str,Sem.run_bind,hconv,Result.andThen_ok,Sem.run_pure]
 rfl
theorem push_bytes:∀(s acc:List UInt8),(s.map fun c=>(c.toNat:Int)).foldl (fun(r:ByteArray) (n:Int)=>r.push (UInt8.ofNat n.toNat)) ⟨⟨acc⟩⟩=⟨⟨acc++s⟩⟩
 | [],acc=>by simp
 | c::s,acc=>by
  have:(ByteArray.mk ⟨acc⟩).push (UInt8.ofNat ((c.toNat:Int)).toNat)=⟨⟨acc++[c]⟩⟩:=by
   apply ByteArray.ext
   simp[ByteArray.push]
  simp only[List.map_cons,List.foldl_cons,this]
  rw[push_bytes s (acc++[c])]
  simp
theorem run_toString {E T':TypeId}{k:Nat}{s:List UInt8}{v:Value}{d:Option Tmp} (ht:P.underlying T=some (.slice E)) (ht':P.underlying T'=some .string) (hE:P.underlying E=some (.int .u8)) (hx:ev f x=v) (hv:Sl w 1 v k (u8s s)) :
  (execOp (ev f) ⟨d,.convert T T' x,ty,pos,af,none⟩).run P w=.ok (.value (str s)) w:=by
 obtain⟨hl,⟨a,c,rfl,rfl⟩ | ⟨b,off,c,rfl,hat⟩⟩:=hv
 ·have:s=[]:=by simpa[u8s] using hl
  subst this
  cases a <;> simp[execOp,hx,convert,run_underlying ht,run_underlying ht',run_underlying hE,Conv.bytesToString,loadCells,str] <;> rfl
 ·have hlen:(u8s s).length=k:=by simpa using hl
  have hload:=run_loadCells_at (P:=P) hat
  rw[hlen] at hload
  have hmap:(u8s s)=(s.map fun c=>(c.toNat:Int)).map (Value.int .u8):=by simp[u8s]
  rw[hmap] at hload
  have hr:=run_bytesToString (P:=P) w ⟨b,off,none⟩ k c _ hload
  have he:(ByteArray.empty)=⟨⟨[]⟩⟩:=rfl
  rw[he,push_bytes,List.nil_append] at hr
  simp[execOp,hx,convert,run_underlying ht,run_underlying ht',run_underlying hE,hr,str]
end
section conds
variable{P:Program}{Q:Post}{n:Nat}{f:Slots}{ds:List Deferred}{w:World}
theorem CW.condP{p:Prop} [Decidable p]{c:Operand}{x y:Code} (hc:ev f c=.bool (decide p)) (ht:p→CW P x Q n f ds w) (hf:¬p→CW P y Q n f ds w):CW P (.cond c x y) Q n f ds w:=
 .cond hc (fun h=>ht (of_decide_eq_true h)) (fun h=>hf (of_decide_eq_false h))
end conds
section quiet
variable{P:Program}{ops:Array Oper}{n:Nat}{rest:List Oper}{f:Slots}{ds:List Deferred}{w w0:World}{o:Op}{ty:TypeId}{pos:String}{af:Array Edge}{S:List Nat}{L:List (Nat×Obj)}{Q:Slots→Prop}
structure QL (P:Program) (ops:Array Oper) (S:List Nat) (L:List (Nat×Obj)) (w0:World) (Q:Slots→Prop) (n:Nat) (l:List Oper) (f:Slots) (ds:List Deferred):Prop where
 out:∀a,Rep n f ds a→wpQuiet P ops (fun w=>Step S L w0 w) (fun a'=>∃f',Rep n f' ds a'∧Q f') l a
theorem QL.nil (h:Q f):QL P ops S L w0 Q n [] f ds:=⟨fun a ha=>⟨f,ha,h⟩⟩
theorem QL.val{d:Nat}{v:Value} (hd:Nat.blt d n=true) (hrun:∀w,Step S L w0 w→(execOp (ev f) ⟨some d,o,ty,pos,af,none⟩).run P w=.ok (.value v) w)
  (h:QL P ops S L w0 Q n rest (upd f d v) ds):QL P ops S L w0 Q n (⟨some d,o,ty,pos,af,none⟩::rest) f ds:=
 ⟨fun a ha=>wpQuiet_step fun K hK=>by
  rw[if_pos (by simp[Region.wanted])]
  refine⟨v,fun w hw=>?_,hK _ (h.out _ (ha.put hd v))⟩
  unfold Oper.quietAt
  rw[ha.eval,hrun w hw]
  exact⟨rfl,rfl⟩⟩
theorem QL.enter{d:Nat}{F:FuncId}{args:Array Value}{v:Value} (hd:Nat.blt d n=true)
  (hrun:∀w,(execOp (ev f) ⟨some d,o,ty,pos,af,none⟩).run P w=.ok (.enter F args) w) (hc:∀w,Step S L w0 w→Calls P F args w fun e w'=>e=.returned v∧Step [] [] w w')
  (h:QL P ops S L w0 Q n rest (upd f d v) ds):QL P ops S L w0 Q n (⟨some d,o,ty,pos,af,none⟩::rest) f ds:=
 ⟨fun a ha=>wpQuiet_step fun K hK=>by
  rw[if_pos (by simp[Region.wanted])]
  refine⟨v,fun w hw=>?_,hK _ (h.out _ (ha.put hd v))⟩
  unfold Oper.quietAt
  rw[ha.eval,hrun w]
  exact⟨rfl,(hc w hw).mono fun e w' ⟨he,hs⟩=>⟨he,hw.call0 hs⟩⟩⟩
theorem QL.yes{d:Option Nat}{j dj:Nat}{want:Bool} (hj:(ops[j]?).bind (·.dst)=some dj) (hdj:Nat.blt dj n=true) (hv:f dj=.bool want)
  (h:QL P ops S L w0 Q n (⟨d,o,ty,pos,af,none⟩::rest) f ds):QL P ops S L w0 Q n (⟨d,o,ty,pos,af,some (j,want)⟩::rest) f ds:=
 ⟨fun a ha=>by
  have hy:=yielded_rep (ops:=ops) ha hj hdj
  rw[hv] at hy
  have:=h.out a ha
  simp only[wpQuiet,Region.wanted,hy,beq_self_eq_true,if_true] at this⊢
  exact this⟩
theorem QL.no{d:Nat}{j dj:Nat}{want:Bool} (hd:Nat.blt d n=true) (hj:(ops[j]?).bind (·.dst)=some dj) (hdj:Nat.blt dj n=true)
  (hv:f dj=.bool (!want)∨f dj=undef)
  (h:QL P ops S L w0 Q n rest (upd f d undef) ds):QL P ops S L w0 Q n (⟨some d,o,ty,pos,af,some (j,want)⟩::rest) f ds:=
 ⟨fun a ha=>by
  have hy:=yielded_rep (ops:=ops) ha hj hdj
  have hne:(yielded ops a.tmps j == some want)=false:=by
   rw[hy]
   rcases hv with hv | hv
   ·rw[hv];cases want <;> rfl
   ·rw[hv];rfl
  simp only[wpQuiet,Region.wanted,hne,Bool.false_eq_true,if_false]
  exact h.out _ (ha.put hd undef)⟩
theorem CW.quiet{Q:Post}{id:Nat}{l:List Oper} (hm:P.follows .mixedOrders=true) (hB:Region.lexB .any l.toArray=true) (hs:Step S L w0 w)
  (h:QL P l.toArray S L w0 (fun f'=>∀w',Step S L w0 w'→Q .normal f' ds w') n l f ds):CW P (.region id l.toArray true) Q n f ds w:=
 ⟨fun a ha=>wp_region_quiet (C:=fun w=>Step S L w0 w) hm hB hs.drew (by
  have hmono:∀(l':List Oper) (a:Act),wpQuiet P l.toArray (fun w=>Step S L w0 w) (fun a'=>∃f',Rep n f' ds a'∧∀w',Step S L w0 w'→Q .normal f' ds w') l' a→wpQuiet P l.toArray (fun w=>Step S L w0 w) (fun a'=>∀w',Step S L w0 w'→lift n Q .normal a' w') l' a:=by
   intro l'
   induction l' with
   | nil=>exact fun a ⟨f',hr,hq⟩ w' hw'=>⟨f',ds,hr,hq w' hw'⟩
   | cons o l' ih=>
    intro a hh
    simp only[wpQuiet] at hh⊢
    split
    ·rename_i hw;rw[if_pos hw] at hh;exact Oper.quiet_mono ih hh
    ·rename_i hw;rw[if_neg hw] at hh;exact ih _ hh
  exact hmono _ _ (by simpa using h.out a ha))⟩
end quiet
section more
variable{S:List Nat}{L:List (Nat×Obj)}{w w':World}{b b1 b2 b3 o:Nat}{T:TypeId}{cs:List Value}{v:Value}{o1 o2 o3:Obj}
theorem Step.c0 (hs:Step S ((b,blk T cs)::L) w w') (ho:cs[o]?=some v):w'.cell? ⟨b,o,none⟩=some v:=by rw[cell_blk hs.hd,ho]
theorem Step.c1 (hs:Step S ((b1,o1)::(b,blk T cs)::L) w w') (ho:cs[o]?=some v):w'.cell? ⟨b,o,none⟩=some v:=hs.tail.c0 ho
theorem Step.c2 (hs:Step S ((b1,o1)::(b2,o2)::(b,blk T cs)::L) w w') (ho:cs[o]?=some v):w'.cell? ⟨b,o,none⟩=some v:=hs.tail.tail.c0 ho
theorem Step.c3 (hs:Step S ((b1,o1)::(b2,o2)::(b3,o3)::(b,blk T cs)::L) w w') (ho:cs[o]?=some v):w'.cell? ⟨b,o,none⟩=some v:=hs.tail.tail.tail.c0 ho
theorem Step.a0 (hs:Step S ((b,blk T cs)::L) w w'):At w' b 0 cs:=At.of_blk hs.hd
theorem Step.a1 (hs:Step S ((b1,o1)::(b,blk T cs)::L) w w'):At w' b 0 cs:=At.of_blk hs.tail.hd
theorem Step.a2 (hs:Step S ((b1,o1)::(b2,o2)::(b,blk T cs)::L) w w'):At w' b 0 cs:=At.of_blk hs.tail.tail.hd
theorem Step.c4{p1 p2 p3 p4:Nat×Obj} (hs:Step S (p1::p2::p3::p4::(b,blk T cs)::L) w w') (ho:cs[o]?=some v):w'.cell? ⟨b,o,none⟩=some v:=hs.tail.tail.tail.tail.c0 ho
theorem Step.a3{p1 p2 p3:Nat×Obj} (hs:Step S (p1::p2::p3::(b,blk T cs)::L) w w'):At w' b 0 cs:=At.of_blk hs.tail.tail.tail.hd
theorem Step.a5{p1 p2 p3 p4 p5:Nat×Obj} (hs:Step S (p1::p2::p3::p4::p5::(b,blk T cs)::L) w w'):At w' b 0 cs:=At.of_blk hs.tail.tail.tail.tail.tail.hd
end more
section stores
variable{P:Program}{ops:Array Oper}{Q:Post}{n:Nat}{rest:List Oper}{f:Slots}{ds:List Deferred}{w w0:World}{ty:TypeId}{pos:String}{af:Array Edge}{x y:Operand}{T:TypeId}{S:List Nat}{L:List (Nat×Obj)}
theorem WL.store1_at (L1:List (Nat×Obj)){agg:Bool}{bytes:Nat}{zs cs:List Value}{b o:Nat}{T':TypeId}{v:Value} (hT:Ty P T agg 1 bytes zs) (hx:ev f x=.pointer (some ⟨b,o,none⟩)) (hy:ev f y=v) (hv:v.oneCell'=true)
  (hs:Step S (L1++(b,blk T' cs)::L) w0 w) (ho:o<cs.length) (h:∀w',Step S (L1++(b,blk T' (cs.set o v))::L) w0 w'→WL P ops Q n rest f ds w'):WL P ops Q n (⟨none,.store T x y,ty,pos,af,none⟩::rest) f ds w:=
 WL.store1 hT hx hy hv (hs.front L1) ho fun w' hs'=>h w' (hs'.perm List.perm_middle.symm)
section
variable{p1 p2 p3 p4:Nat×Obj}{agg:Bool}{bytes:Nat}{zs cs:List Value}{b o:Nat}{T':TypeId}{v:Value} (hT:Ty P T agg 1 bytes zs) (hx:ev f x=.pointer (some ⟨b,o,none⟩)) (hy:ev f y=v) (hv:v.oneCell'=true)
include hT hx hy hv
theorem WL.store1_1 (hs:Step S (p1::(b,blk T' cs)::L) w0 w) (ho:o<cs.length) (h:∀w',Step S (p1::(b,blk T' (cs.set o v))::L) w0 w'→WL P ops Q n rest f ds w'):WL P ops Q n (⟨none,.store T x y,ty,pos,af,none⟩::rest) f ds w:=
 WL.store1_at [p1] hT hx hy hv hs ho h
theorem WL.store1_2 (hs:Step S (p1::p2::(b,blk T' cs)::L) w0 w) (ho:o<cs.length) (h:∀w',Step S (p1::p2::(b,blk T' (cs.set o v))::L) w0 w'→WL P ops Q n rest f ds w'):WL P ops Q n (⟨none,.store T x y,ty,pos,af,none⟩::rest) f ds w:=
 WL.store1_at [p1,p2] hT hx hy hv hs ho h
theorem WL.store1_3 (hs:Step S (p1::p2::p3::(b,blk T' cs)::L) w0 w) (ho:o<cs.length) (h:∀w',Step S (p1::p2::p3::(b,blk T' (cs.set o v))::L) w0 w'→WL P ops Q n rest f ds w'):WL P ops Q n (⟨none,.store T x y,ty,pos,af,none⟩::rest) f ds w:=
 WL.store1_at [p1,p2,p3] hT hx hy hv hs ho h
end
theorem WL.storeAll_at (L1:List (Nat×Obj)){agg:Bool}{k bytes:Nat}{zs cs vs:List Value}{b:Nat}{T':TypeId} (hT:Ty P T agg k bytes zs) (hx:ev f x=.pointer (some ⟨b,0,none⟩)) (hy:ev f y=.agg vs.toArray) (hl:vs.length=k) (hv:Cells1 vs)
  (hs:Step S (L1++(b,blk T' cs)::L) w0 w) (hc:cs.length=k) (h:∀w',Step S (L1++(b,blk T' vs)::L) w0 w'→WL P ops Q n rest f ds w'):WL P ops Q n (⟨none,.store T x y,ty,pos,af,none⟩::rest) f ds w:=
 WL.storeAll hT hx hy hl hv (hs.front L1) hc fun w' hs'=>h w' (hs'.perm List.perm_middle.symm)
section
variable{p1 p2 p3 p4:Nat×Obj}{agg:Bool}{k bytes:Nat}{zs cs vs:List Value}{b:Nat}{T':TypeId} (hT:Ty P T agg k bytes zs) (hx:ev f x=.pointer (some ⟨b,0,none⟩)) (hy:ev f y=.agg vs.toArray) (hl:vs.length=k) (hv:Cells1 vs)
include hT hx hy hl hv
theorem WL.storeAll_1 (hs:Step S (p1::(b,blk T' cs)::L) w0 w) (hc:cs.length=k) (h:∀w',Step S (p1::(b,blk T' vs)::L) w0 w'→WL P ops Q n rest f ds w'):WL P ops Q n (⟨none,.store T x y,ty,pos,af,none⟩::rest) f ds w:=
 WL.storeAll_at [p1] hT hx hy hl hv hs hc h
theorem WL.storeAll_2 (hs:Step S (p1::p2::(b,blk T' cs)::L) w0 w) (hc:cs.length=k) (h:∀w',Step S (p1::p2::(b,blk T' vs)::L) w0 w'→WL P ops Q n rest f ds w'):WL P ops Q n (⟨none,.store T x y,ty,pos,af,none⟩::rest) f ds w:=
 WL.storeAll_at [p1,p2] hT hx hy hl hv hs hc h
theorem WL.storeAll_3 (hs:Step S (p1::p2::p3::(b,blk T' cs)::L) w0 w) (hc:cs.length=k) (h:∀w',Step S (p1::p2::p3::(b,blk T' vs)::L) w0 w'→WL P ops Q n rest f ds w'):WL P ops Q n (⟨none,.store T x y,ty,pos,af,none⟩::rest) f ds w:=
 WL.storeAll_at [p1,p2,p3] hT hx hy hl hv hs hc h
end
end stores
end Go.Gx
namespace Go.Gx
open Go.Proofs
theorem ty3 : Ty Tryz.prog 3 false 1 8 [.int .i64 0] := ty_of (z := .int .i64 0) Tryz.underlying3 rfl (by kernel_rfl) rfl rfl
theorem ty4 : Ty Tryz.prog 4 false 1 1 [.bool false] := ty_of (z := .bool false) Tryz.underlying4 rfl (by kernel_rfl) rfl rfl
theorem ty5 : Ty Tryz.prog 5 false 1 1 [.int .u8 0] := ty_of (z := .int .u8 0) Tryz.underlying5 rfl (by kernel_rfl) rfl rfl
theorem ty9 : Ty Tryz.prog 9 false 1 16 [str []] := ty_of (z := str []) Tryz.underlying9 rfl (by kernel_rfl) rfl rfl
theorem ty22 : Ty Tryz.prog 22 false 1 24 [.slice none 0 0] := ty_of (z := .slice none 0 0) Tryz.underlying22 rfl (by kernel_rfl) rfl rfl
theorem ty23 : Ty Tryz.prog 23 false 1 24 [.slice none 0 0] := ty_of (z := .slice none 0 0) Tryz.underlying23 rfl (by kernel_rfl) rfl rfl
theorem ty24 : Ty Tryz.prog 24 false 1 24 [.slice none 0 0] := ty_of (z := .slice none 0 0) Tryz.underlying24 rfl (by kernel_rfl) rfl rfl
theorem ty25 : Ty Tryz.prog 25 false 1 24 [.slice none 0 0] := ty_of (z := .slice none 0 0) Tryz.underlying25 rfl (by kernel_rfl) rfl rfl
theorem ty26 : Ty Tryz.prog 26 false 1 24 [.slice none 0 0] := ty_of (z := .slice none 0 0) Tryz.underlying26 rfl (by kernel_rfl) rfl rfl
theorem ty28 : Ty Tryz.prog 28 true 6 128 [.int .i64 0, .slice none 0 0, .slice none 0 0, .slice none 0 0, .slice none 0 0, .slice none 0 0] := ty_of (z := .agg ([.int .i64 0, .slice none 0 0, .slice none 0 0, .slice none 0 0, .slice none 0 0, .slice none 0 0]).toArray) Tryz.underlying28 rfl (by kernel_rfl) rfl rfl
theorem ty30 : Ty Tryz.prog 30 true 3 24 [.int .i64 0, .int .i64 0, .int .i64 0] := ty_of (z := .agg ([.int .i64 0, .int .i64 0, .int .i64 0]).toArray) Tryz.underlying30 rfl (by kernel_rfl) rfl rfl
theorem ty35 : Ty Tryz.prog 35 false 1 24 [.slice none 0 0] := ty_of (z := .slice none 0 0) Tryz.underlying35 rfl (by kernel_rfl) rfl rfl
theorem ty36 : Ty Tryz.prog 36 false 1 8 [.int .i64 0] := ty_of (z := .int .i64 0) Tryz.underlying36 rfl (by kernel_rfl) rfl rfl
theorem ty39 : Ty Tryz.prog 39 false 1 8 [.pointer none] := ty_of (z := .pointer none) Tryz.underlying39 rfl (by kernel_rfl) rfl rfl
theorem ty40 : Ty Tryz.prog 40 false 1 8 [.pointer none] := ty_of (z := .pointer none) Tryz.underlying40 rfl (by kernel_rfl) rfl rfl
theorem ty44 : Ty Tryz.prog 44 true 32 32 (List.replicate 32 (Value.int .u8 0)) := ty_of (z := .agg ((List.replicate 32 (Value.int .u8 0))).toArray) Tryz.underlying44 rfl (by kernel_rfl) rfl rfl
theorem ty50 : Ty Tryz.prog 50 true 2 16 [.int .i64 0, .int .i64 0] := ty_of (z := .agg ([.int .i64 0, .int .i64 0]).toArray) Tryz.underlying50 rfl (by kernel_rfl) rfl rfl
theorem ty52 : Ty Tryz.prog 52 false 1 24 [.slice none 0 0] := ty_of (z := .slice none 0 0) Tryz.underlying52 rfl (by kernel_rfl) rfl rfl
theorem ty65 : Ty Tryz.prog 65 false 1 24 [.slice none 0 0] := ty_of (z := .slice none 0 0) Tryz.underlying65 rfl (by kernel_rfl) rfl rfl
theorem ty76 : Ty Tryz.prog 76 false 1 24 [.slice none 0 0] := ty_of (z := .slice none 0 0) Tryz.underlying76 rfl (by kernel_rfl) rfl rfl
theorem ty80 : Ty Tryz.prog 80 true 34 64 (List.replicate 32 (Value.int .u8 0) ++ [Value.slice none 0 0, Value.int .i64 0]) := ty_of (z := .agg ((List.replicate 32 (Value.int .u8 0) ++ [Value.slice none 0 0, Value.int .i64 0])).toArray) Tryz.underlying80 rfl (by kernel_rfl) rfl rfl
theorem ty115 : Ty Tryz.prog 115 true 34 56 ([str [], Value.int .i64 0] ++ List.replicate 32 (Value.int .u8 0)) := ty_of (z := .agg (([str [], Value.int .i64 0] ++ List.replicate 32 (Value.int .u8 0))).toArray) Tryz.underlying115 rfl (by kernel_rfl) rfl rfl
theorem ty116 : Ty Tryz.prog 116 false 1 24 [.slice none 0 0] := ty_of (z := .slice none 0 0) Tryz.underlying116 rfl (by kernel_rfl) rfl rfl
theorem ty124 : Ty Tryz.prog 124 true 2 32 [.int .i64 0, .slice none 0 0] := ty_of (z := .agg ([.int .i64 0, .slice none 0 0]).toArray) Tryz.underlying124 rfl (by kernel_rfl) rfl rfl
theorem ty129 : Ty Tryz.prog 129 false 1 8 [.map none] := ty_of (z := .map none) Tryz.underlying129 rfl (by kernel_rfl) rfl rfl
theorem ty130 : Ty Tryz.prog 130 false 1 8 [.map none] := ty_of (z := .map none) Tryz.underlying130 rfl (by kernel_rfl) rfl rfl
theorem ty138 : Ty Tryz.prog 138 false 1 8 [.map none] := ty_of (z := .map none) Tryz.underlying138 rfl (by kernel_rfl) rfl rfl
theorem ty140 : Ty Tryz.prog 140 true 7 56 [.int .i64 0, .int .i64 0, .int .i64 0, .int .i64 0, .map none, .int .i64 0, .int .i64 0] := ty_of (z := .agg ([.int .i64 0, .int .i64 0, .int .i64 0, .int .i64 0, .map none, .int .i64 0, .int .i64 0]).toArray) Tryz.underlying140 rfl (by kernel_rfl) rfl rfl
theorem ty142 : Ty Tryz.prog 142 true 0 0 [] := ty_of (z := .agg ([]).toArray) Tryz.underlying142 rfl (by kernel_rfl) rfl rfl
theorem ty150 : Ty Tryz.prog 150 false 1 8 [.nilFunc] := ty_of (z := .nilFunc) Tryz.underlying150 rfl (by kernel_rfl) rfl rfl
theorem ty151 : Ty Tryz.prog 151 false 1 8 [.nilFunc] := ty_of (z := .nilFunc) Tryz.underlying151 rfl (by kernel_rfl) rfl rfl
theorem ty155 : Ty Tryz.prog 155 true 3 48 [str [], .bool false, .slice none 0 0] := ty_of (z := .agg ([str [], .bool false, .slice none 0 0]).toArray) Tryz.underlying155 rfl (by kernel_rfl) rfl rfl
theorem ty156 : Ty Tryz.prog 156 false 1 24 [.slice none 0 0] := ty_of (z := .slice none 0 0) Tryz.underlying156 rfl (by kernel_rfl) rfl rfl
theorem ty158 : Ty Tryz.prog 158 true 2 32 [.slice none 0 0, .int .i64 0] := ty_of (z := .agg ([.slice none 0 0, .int .i64 0]).toArray) Tryz.underlying158 rfl (by kernel_rfl) rfl rfl
theorem ty160 : Ty Tryz.prog 160 true 33 56 (List.replicate 32 (Value.int .u8 0) ++ [Value.slice none 0 0]) := ty_of (z := .agg ((List.replicate 32 (Value.int .u8 0) ++ [Value.slice none 0 0])).toArray) Tryz.underlying160 rfl (by kernel_rfl) rfl rfl
theorem ty188 : Ty Tryz.prog 188 true 3 40 [.int .i64 0, .int .i64 0, .slice none 0 0] := ty_of (z := .agg ([.int .i64 0, .int .i64 0, .slice none 0 0]).toArray) Tryz.underlying188 rfl (by kernel_rfl) rfl rfl
theorem ty201 : Ty Tryz.prog 201 true 32 32 (List.replicate 32 (Value.int .u8 0)) := ty_of (z := .agg ((List.replicate 32 (Value.int .u8 0))).toArray) Tryz.underlying201 rfl (by kernel_rfl) rfl rfl
theorem ty207 : Ty Tryz.prog 207 false 1 24 [.slice none 0 0] := ty_of (z := .slice none 0 0) Tryz.underlying207 rfl (by kernel_rfl) rfl rfl
theorem ty209 : Ty Tryz.prog 209 true 1 24 [.slice none 0 0] := ty_of (z := .agg ([.slice none 0 0]).toArray) Tryz.underlying209 rfl (by kernel_rfl) rfl rfl
theorem ty212 : Ty Tryz.prog 212 true 34 48 (List.replicate 32 (Value.int .u8 0) ++ [Value.bool false, Value.int .i64 0]) := ty_of (z := .agg ((List.replicate 32 (Value.int .u8 0) ++ [Value.bool false, Value.int .i64 0])).toArray) Tryz.underlying212 rfl (by kernel_rfl) rfl rfl
theorem ty215 : Ty Tryz.prog 215 false 1 24 [.slice none 0 0] := ty_of (z := .slice none 0 0) Tryz.underlying215 rfl (by kernel_rfl) rfl rfl
theorem ty217 : Ty Tryz.prog 217 true 1 24 [.slice none 0 0] := ty_of (z := .agg ([.slice none 0 0]).toArray) Tryz.underlying217 rfl (by kernel_rfl) rfl rfl
theorem ty220 : Ty Tryz.prog 220 true 33 40 (List.replicate 32 (Value.int .u8 0) ++ [Value.int .i64 0]) := ty_of (z := .agg ((List.replicate 32 (Value.int .u8 0) ++ [Value.int .i64 0])).toArray) Tryz.underlying220 rfl (by kernel_rfl) rfl rfl
theorem ty228 : Ty Tryz.prog 228 false 1 8 [.pointer none] := ty_of (z := .pointer none) Tryz.underlying228 rfl (by kernel_rfl) rfl rfl
theorem ty266 : Ty Tryz.prog 266 true 4 48 [.slice none 0 0, .int .i64 0, .bool false, .int .i64 0] := ty_of (z := .agg ([.slice none 0 0, .int .i64 0, .bool false, .int .i64 0]).toArray) Tryz.underlying266 rfl (by kernel_rfl) rfl rfl
theorem ty268 : Ty Tryz.prog 268 true 1 8 [.pointer none] := ty_of (z := .agg ([.pointer none]).toArray) Tryz.underlying268 rfl (by kernel_rfl) rfl rfl
theorem ty281 : Ty Tryz.prog 281 false 1 4 [.int .u32 0] := ty_of (z := .int .u32 0) Tryz.underlying281 rfl (by kernel_rfl) rfl rfl
theorem ty291 : Ty Tryz.prog 291 true 8 32 [.int .u32 0, .int .u32 0, .int .u32 0, .int .u32 0, .int .u32 0, .int .u32 0, .int .u32 0, .int .u32 0] := ty_of (z := .agg ([.int .u32 0, .int .u32 0, .int .u32 0, .int .u32 0, .int .u32 0, .int .u32 0, .int .u32 0, .int .u32 0]).toArray) Tryz.underlying291 rfl (by kernel_rfl) rfl rfl
theorem ty298 : Ty Tryz.prog 298 true 64 64 (List.replicate 64 (Value.int .u8 0)) := ty_of (z := .agg ((List.replicate 64 (Value.int .u8 0))).toArray) Tryz.underlying298 rfl (by kernel_rfl) rfl rfl
theorem ty300 : Ty Tryz.prog 300 true 74 112 (List.replicate 8 (Value.int .u32 0) ++ [Value.bool false] ++ List.replicate 64 (Value.int .u8 0) ++ [Value.int .i64 0]) := ty_of (z := .agg ((List.replicate 8 (Value.int .u32 0) ++ [Value.bool false] ++ List.replicate 64 (Value.int .u8 0) ++ [Value.int .i64 0])).toArray) Tryz.underlying300 rfl (by kernel_rfl) rfl rfl
theorem ty302 : Ty Tryz.prog 302 true 64 256 (List.replicate 64 (Value.int .u32 0)) := ty_of (z := .agg ((List.replicate 64 (Value.int .u32 0))).toArray) Tryz.underlying302 rfl (by kernel_rfl) rfl rfl
theorem en15 : En Tryz.prog 15 := ⟨Tryz.f15, Tryz.func15, rfl, by kernel_rfl⟩
theorem en16 : En Tryz.prog 16 := ⟨Tryz.f16, Tryz.func16, rfl, by kernel_rfl⟩
theorem en17 : En Tryz.prog 17 := ⟨Tryz.f17, Tryz.func17, rfl, by kernel_rfl⟩
theorem en18 : En Tryz.prog 18 := ⟨Tryz.f18, Tryz.func18, rfl, by kernel_rfl⟩
theorem en20 : En Tryz.prog 20 := ⟨Tryz.f20, Tryz.func20, rfl, by kernel_rfl⟩
theorem en22 : En Tryz.prog 22 := ⟨Tryz.f22, Tryz.func22, rfl, by kernel_rfl⟩
theorem en25 : En Tryz.prog 25 := ⟨Tryz.f25, Tryz.func25, rfl, by kernel_rfl⟩
theorem en27 : En Tryz.prog 27 := ⟨Tryz.f27, Tryz.func27, rfl, by kernel_rfl⟩
theorem en28 : En Tryz.prog 28 := ⟨Tryz.f28, Tryz.func28, rfl, by kernel_rfl⟩
theorem en29 : En Tryz.prog 29 := ⟨Tryz.f29, Tryz.func29, rfl, by kernel_rfl⟩
theorem en30 : En Tryz.prog 30 := ⟨Tryz.f30, Tryz.func30, rfl, by kernel_rfl⟩
theorem en31 : En Tryz.prog 31 := ⟨Tryz.f31, Tryz.func31, rfl, by kernel_rfl⟩
theorem en32 : En Tryz.prog 32 := ⟨Tryz.f32, Tryz.func32, rfl, by kernel_rfl⟩
theorem en34 : En Tryz.prog 34 := ⟨Tryz.f34, Tryz.func34, rfl, by kernel_rfl⟩
theorem en35 : En Tryz.prog 35 := ⟨Tryz.f35, Tryz.func35, rfl, by kernel_rfl⟩
theorem en36 : En Tryz.prog 36 := ⟨Tryz.f36, Tryz.func36, rfl, by kernel_rfl⟩
theorem en46 : En Tryz.prog 46 := ⟨Tryz.f46, Tryz.func46, rfl, by kernel_rfl⟩
theorem en48 : En Tryz.prog 48 := ⟨Tryz.f48, Tryz.func48, rfl, by kernel_rfl⟩
theorem en49 : En Tryz.prog 49 := ⟨Tryz.f49, Tryz.func49, rfl, by kernel_rfl⟩
theorem en50 : En Tryz.prog 50 := ⟨Tryz.f50, Tryz.func50, rfl, by kernel_rfl⟩
theorem en51 : En Tryz.prog 51 := ⟨Tryz.f51, Tryz.func51, rfl, by kernel_rfl⟩
theorem en52 : En Tryz.prog 52 := ⟨Tryz.f52, Tryz.func52, rfl, by kernel_rfl⟩
theorem en53 : En Tryz.prog 53 := ⟨Tryz.f53, Tryz.func53, rfl, by kernel_rfl⟩
theorem en54 : En Tryz.prog 54 := ⟨Tryz.f54, Tryz.func54, rfl, by kernel_rfl⟩
theorem en55 : En Tryz.prog 55 := ⟨Tryz.f55, Tryz.func55, rfl, by kernel_rfl⟩
theorem en56 : En Tryz.prog 56 := ⟨Tryz.f56, Tryz.func56, rfl, by kernel_rfl⟩
theorem en57 : En Tryz.prog 57 := ⟨Tryz.f57, Tryz.func57, rfl, by kernel_rfl⟩
theorem en58 : En Tryz.prog 58 := ⟨Tryz.f58, Tryz.func58, rfl, by kernel_rfl⟩
theorem en59 : En Tryz.prog 59 := ⟨Tryz.f59, Tryz.func59, rfl, by kernel_rfl⟩
theorem en60 : En Tryz.prog 60 := ⟨Tryz.f60, Tryz.func60, rfl, by kernel_rfl⟩
theorem en61 : En Tryz.prog 61 := ⟨Tryz.f61, Tryz.func61, rfl, by kernel_rfl⟩
theorem en62 : En Tryz.prog 62 := ⟨Tryz.f62, Tryz.func62, rfl, by kernel_rfl⟩
theorem en63 : En Tryz.prog 63 := ⟨Tryz.f63, Tryz.func63, rfl, by kernel_rfl⟩
theorem en64 : En Tryz.prog 64 := ⟨Tryz.f64, Tryz.func64, rfl, by kernel_rfl⟩
theorem en67 : En Tryz.prog 67 := ⟨Tryz.f67, Tryz.func67, rfl, by kernel_rfl⟩
theorem en68 : En Tryz.prog 68 := ⟨Tryz.f68, Tryz.func68, rfl, by kernel_rfl⟩
theorem en69 : En Tryz.prog 69 := ⟨Tryz.f69, Tryz.func69, rfl, by kernel_rfl⟩
theorem en70 : En Tryz.prog 70 := ⟨Tryz.f70, Tryz.func70, rfl, by kernel_rfl⟩
theorem en74 : En Tryz.prog 74 := ⟨Tryz.f74, Tryz.func74, rfl, by kernel_rfl⟩
theorem en75 : En Tryz.prog 75 := ⟨Tryz.f75, Tryz.func75, rfl, by kernel_rfl⟩
theorem en76 : En Tryz.prog 76 := ⟨Tryz.f76, Tryz.func76, rfl, by kernel_rfl⟩
theorem en77 : En Tryz.prog 77 := ⟨Tryz.f77, Tryz.func77, rfl, by kernel_rfl⟩
theorem en78 : En Tryz.prog 78 := ⟨Tryz.f78, Tryz.func78, rfl, by kernel_rfl⟩
theorem en79 : En Tryz.prog 79 := ⟨Tryz.f79, Tryz.func79, rfl, by kernel_rfl⟩
theorem en81 : En Tryz.prog 81 := ⟨Tryz.f81, Tryz.func81, rfl, by kernel_rfl⟩
theorem en82 : En Tryz.prog 82 := ⟨Tryz.f82, Tryz.func82, rfl, by kernel_rfl⟩
theorem en83 : En Tryz.prog 83 := ⟨Tryz.f83, Tryz.func83, rfl, by kernel_rfl⟩
theorem en88 : En Tryz.prog 88 := ⟨Tryz.f88, Tryz.func88, rfl, by kernel_rfl⟩
theorem en89 : En Tryz.prog 89 := ⟨Tryz.f89, Tryz.func89, rfl, by kernel_rfl⟩
theorem en90 : En Tryz.prog 90 := ⟨Tryz.f90, Tryz.func90, rfl, by kernel_rfl⟩
theorem en91 : En Tryz.prog 91 := ⟨Tryz.f91, Tryz.func91, rfl, by kernel_rfl⟩
theorem en92 : En Tryz.prog 92 := ⟨Tryz.f92, Tryz.func92, rfl, by kernel_rfl⟩
theorem en99 : En Tryz.prog 99 := ⟨Tryz.f99, Tryz.func99, rfl, by kernel_rfl⟩
theorem en100 : En Tryz.prog 100 := ⟨Tryz.f100, Tryz.func100, rfl, by kernel_rfl⟩
theorem en101 : En Tryz.prog 101 := ⟨Tryz.f101, Tryz.func101, rfl, by kernel_rfl⟩
theorem en102 : En Tryz.prog 102 := ⟨Tryz.f102, Tryz.func102, rfl, by kernel_rfl⟩
theorem en103 : En Tryz.prog 103 := ⟨Tryz.f103, Tryz.func103, rfl, by kernel_rfl⟩
theorem en104 : En Tryz.prog 104 := ⟨Tryz.f104, Tryz.func104, rfl, by kernel_rfl⟩
theorem en105 : En Tryz.prog 105 := ⟨Tryz.f105, Tryz.func105, rfl, by kernel_rfl⟩
theorem en106 : En Tryz.prog 106 := ⟨Tryz.f106, Tryz.func106, rfl, by kernel_rfl⟩
theorem en107 : En Tryz.prog 107 := ⟨Tryz.f107, Tryz.func107, rfl, by kernel_rfl⟩
theorem en108 : En Tryz.prog 108 := ⟨Tryz.f108, Tryz.func108, rfl, by kernel_rfl⟩
theorem en109 : En Tryz.prog 109 := ⟨Tryz.f109, Tryz.func109, rfl, by kernel_rfl⟩
theorem en110 : En Tryz.prog 110 := ⟨Tryz.f110, Tryz.func110, rfl, by kernel_rfl⟩
theorem en111 : En Tryz.prog 111 := ⟨Tryz.f111, Tryz.func111, rfl, by kernel_rfl⟩
theorem en112 : En Tryz.prog 112 := ⟨Tryz.f112, Tryz.func112, rfl, by kernel_rfl⟩
theorem en113 : En Tryz.prog 113 := ⟨Tryz.f113, Tryz.func113, rfl, by kernel_rfl⟩
theorem en114 : En Tryz.prog 114 := ⟨Tryz.f114, Tryz.func114, rfl, by kernel_rfl⟩
theorem en115 : En Tryz.prog 115 := ⟨Tryz.f115, Tryz.func115, rfl, by kernel_rfl⟩
theorem en116 : En Tryz.prog 116 := ⟨Tryz.f116, Tryz.func116, rfl, by kernel_rfl⟩
theorem en117 : En Tryz.prog 117 := ⟨Tryz.f117, Tryz.func117, rfl, by kernel_rfl⟩
theorem en118 : En Tryz.prog 118 := ⟨Tryz.f118, Tryz.func118, rfl, by kernel_rfl⟩
theorem en119 : En Tryz.prog 119 := ⟨Tryz.f119, Tryz.func119, rfl, by kernel_rfl⟩
theorem en121 : En Tryz.prog 121 := ⟨Tryz.f121, Tryz.func121, rfl, by kernel_rfl⟩
theorem en122 : En Tryz.prog 122 := ⟨Tryz.f122, Tryz.func122, rfl, by kernel_rfl⟩
theorem en123 : En Tryz.prog 123 := ⟨Tryz.f123, Tryz.func123, rfl, by kernel_rfl⟩
theorem en124 : En Tryz.prog 124 := ⟨Tryz.f124, Tryz.func124, rfl, by kernel_rfl⟩
theorem en125 : En Tryz.prog 125 := ⟨Tryz.f125, Tryz.func125, rfl, by kernel_rfl⟩
theorem en126 : En Tryz.prog 126 := ⟨Tryz.f126, Tryz.func126, rfl, by kernel_rfl⟩
theorem en127 : En Tryz.prog 127 := ⟨Tryz.f127, Tryz.func127, rfl, by kernel_rfl⟩
theorem en128 : En Tryz.prog 128 := ⟨Tryz.f128, Tryz.func128, rfl, by kernel_rfl⟩
theorem en129 : En Tryz.prog 129 := ⟨Tryz.f129, Tryz.func129, rfl, by kernel_rfl⟩
theorem en132 : En Tryz.prog 132 := ⟨Tryz.f132, Tryz.func132, rfl, by kernel_rfl⟩
theorem en135 : En Tryz.prog 135 := ⟨Tryz.f135, Tryz.func135, rfl, by kernel_rfl⟩
theorem en140 : En Tryz.prog 140 := ⟨Tryz.f140, Tryz.func140, rfl, by kernel_rfl⟩
theorem en142 : En Tryz.prog 142 := ⟨Tryz.f142, Tryz.func142, rfl, by kernel_rfl⟩
theorem en143 : En Tryz.prog 143 := ⟨Tryz.f143, Tryz.func143, rfl, by kernel_rfl⟩
theorem en144 : En Tryz.prog 144 := ⟨Tryz.f144, Tryz.func144, rfl, by kernel_rfl⟩
theorem en145 : En Tryz.prog 145 := ⟨Tryz.f145, Tryz.func145, rfl, by kernel_rfl⟩
theorem en146 : En Tryz.prog 146 := ⟨Tryz.f146, Tryz.func146, rfl, by kernel_rfl⟩
theorem en147 : En Tryz.prog 147 := ⟨Tryz.f147, Tryz.func147, rfl, by kernel_rfl⟩
theorem en148 : En Tryz.prog 148 := ⟨Tryz.f148, Tryz.func148, rfl, by kernel_rfl⟩
theorem en149 : En Tryz.prog 149 := ⟨Tryz.f149, Tryz.func149, rfl, by kernel_rfl⟩
theorem en150 : En Tryz.prog 150 := ⟨Tryz.f150, Tryz.func150, rfl, by kernel_rfl⟩
theorem en151 : En Tryz.prog 151 := ⟨Tryz.f151, Tryz.func151, rfl, by kernel_rfl⟩
theorem en152 : En Tryz.prog 152 := ⟨Tryz.f152, Tryz.func152, rfl, by kernel_rfl⟩
theorem en153 : En Tryz.prog 153 := ⟨Tryz.f153, Tryz.func153, rfl, by kernel_rfl⟩
theorem en154 : En Tryz.prog 154 := ⟨Tryz.f154, Tryz.func154, rfl, by kernel_rfl⟩
theorem en155 : En Tryz.prog 155 := ⟨Tryz.f155, Tryz.func155, rfl, by kernel_rfl⟩
theorem en156 : En Tryz.prog 156 := ⟨Tryz.f156, Tryz.func156, rfl, by kernel_rfl⟩
theorem en157 : En Tryz.prog 157 := ⟨Tryz.f157, Tryz.func157, rfl, by kernel_rfl⟩
theorem en159 : En Tryz.prog 159 := ⟨Tryz.f159, Tryz.func159, rfl, by kernel_rfl⟩
theorem en160 : En Tryz.prog 160 := ⟨Tryz.f160, Tryz.func160, rfl, by kernel_rfl⟩
theorem en161 : En Tryz.prog 161 := ⟨Tryz.f161, Tryz.func161, rfl, by kernel_rfl⟩
theorem en162 : En Tryz.prog 162 := ⟨Tryz.f162, Tryz.func162, rfl, by kernel_rfl⟩
theorem en174 : En Tryz.prog 174 := ⟨Tryz.f174, Tryz.func174, rfl, by kernel_rfl⟩
theorem en175 : En Tryz.prog 175 := ⟨Tryz.f175, Tryz.func175, rfl, by kernel_rfl⟩
theorem en176 : En Tryz.prog 176 := ⟨Tryz.f176, Tryz.func176, rfl, by kernel_rfl⟩
theorem en178 : En Tryz.prog 178 := ⟨Tryz.f178, Tryz.func178, rfl, by kernel_rfl⟩
theorem en179 : En Tryz.prog 179 := ⟨Tryz.f179, Tryz.func179, rfl, by kernel_rfl⟩
theorem en181 : En Tryz.prog 181 := ⟨Tryz.f181, Tryz.func181, rfl, by kernel_rfl⟩
theorem en182 : En Tryz.prog 182 := ⟨Tryz.f182, Tryz.func182, rfl, by kernel_rfl⟩
theorem en183 : En Tryz.prog 183 := ⟨Tryz.f183, Tryz.func183, rfl, by kernel_rfl⟩
theorem en184 : En Tryz.prog 184 := ⟨Tryz.f184, Tryz.func184, rfl, by kernel_rfl⟩
theorem en185 : En Tryz.prog 185 := ⟨Tryz.f185, Tryz.func185, rfl, by kernel_rfl⟩
theorem en186 : En Tryz.prog 186 := ⟨Tryz.f186, Tryz.func186, rfl, by kernel_rfl⟩
theorem en187 : En Tryz.prog 187 := ⟨Tryz.f187, Tryz.func187, rfl, by kernel_rfl⟩
theorem en193 : En Tryz.prog 193 := ⟨Tryz.f193, Tryz.func193, rfl, by kernel_rfl⟩
theorem en194 : En Tryz.prog 194 := ⟨Tryz.f194, Tryz.func194, rfl, by kernel_rfl⟩
theorem en195 : En Tryz.prog 195 := ⟨Tryz.f195, Tryz.func195, rfl, by kernel_rfl⟩
theorem en196 : En Tryz.prog 196 := ⟨Tryz.f196, Tryz.func196, rfl, by kernel_rfl⟩
theorem en197 : En Tryz.prog 197 := ⟨Tryz.f197, Tryz.func197, rfl, by kernel_rfl⟩
theorem en198 : En Tryz.prog 198 := ⟨Tryz.f198, Tryz.func198, rfl, by kernel_rfl⟩
theorem en200 : En Tryz.prog 200 := ⟨Tryz.f200, Tryz.func200, rfl, by kernel_rfl⟩
theorem en201 : En Tryz.prog 201 := ⟨Tryz.f201, Tryz.func201, rfl, by kernel_rfl⟩
theorem en202 : En Tryz.prog 202 := ⟨Tryz.f202, Tryz.func202, rfl, by kernel_rfl⟩
theorem en203 : En Tryz.prog 203 := ⟨Tryz.f203, Tryz.func203, rfl, by kernel_rfl⟩
theorem en204 : En Tryz.prog 204 := ⟨Tryz.f204, Tryz.func204, rfl, by kernel_rfl⟩
theorem en205 : En Tryz.prog 205 := ⟨Tryz.f205, Tryz.func205, rfl, by kernel_rfl⟩
theorem en208 : En Tryz.prog 208 := ⟨Tryz.f208, Tryz.func208, rfl, by kernel_rfl⟩
theorem en209 : En Tryz.prog 209 := ⟨Tryz.f209, Tryz.func209, rfl, by kernel_rfl⟩
theorem mixedP : Tryz.prog.follows .mixedOrders = true := by kernel_rfl
end Go.Gx
namespace Go.Gx
section any
variable{P:Program}{ops:Array Oper}{Q:Exit→Act→World→Prop}{md:Region.Mode}{A C:World→Prop}
def wpAnyI (P:Program) (md:Region.Mode) (ops:Array Oper) (Q:Exit→Act→World→Prop) (s:Nat) (A C:World→Prop):Nat→Array Bool→Act→World→Prop
 | 0,listed,a,w=>(A w∧(listed.getD s false=false→C w))∧Region.ready md ops listed=[]∧Q .normal a w
 | fuel+1,listed,a,w=>(A w∧(listed.getD s false=false→C w))∧(Region.ready md ops listed=[]→Q .normal a w)∧
  ∀i∈Region.ready md ops listed,wpOp P ops Q i (wpAnyI P md ops Q s A C fuel (listed.setIfInBounds i true)) a w
theorem wpAnyI.relax {s s':Nat}{C':World→Prop}:∀{fuel:Nat}{listed:Array Bool}{a:Act}{w:World},listed.getD s false=true→wpAnyI P md ops Q s' A C' fuel listed a w→wpAnyI P md ops Q s A C fuel listed a w
 | 0,_,_,_,hu,h=>⟨⟨h.1.1,fun h0=>(by rw[hu] at h0;cases h0)⟩,h.2.1,h.2.2⟩
 | _+1,_,_,_,hu,h=>⟨⟨h.1.1,fun h0=>(by rw[hu] at h0;cases h0)⟩,h.2.1,fun i hi=>wpOp_mono (fun _ _ h'=>wpAnyI.relax (getD_set_true hu) h') (h.2.2 i hi)⟩
theorem wpAnyI.any{s:Nat}:∀{fuel:Nat}{listed:Array Bool}{a:Act}{w:World},wpAnyI P md ops Q s A C fuel listed a w→wpAny P md ops Q fuel listed a w
 | 0,_,_,_,h=>h.2
 | _+1,_,_,_,h=>⟨h.2.1,fun i hi=>wpOp_mono (fun _ _ h'=>wpAnyI.any h') (h.2.2 i hi)⟩
def YieldsC (P:Program) (ops:Array Oper) (C:World→Prop) (o:Oper) (v:Value) (a:Act):Prop:=
 (Region.wanted o (yielded ops a.tmps)=true∧∀w,C w→(execOp a.eval o).run P w=.ok (.value v) w)∨
 (Region.wanted o (yielded ops a.tmps)=false∧v=undef)
theorem YieldsC.wpOp{i:Nat}{o:Oper}{v:Value}{a:Act} (hi:ops[i]?=some o) (hy:YieldsC P ops C o v a)
  {K:Act→World→Prop}{w:World} (hC:C w) (h:K (a.put o.dst v) w):wpOp P ops Q i K a w:=by
 unfold Go.wpOp
 simp only[hi]
 rcases hy with⟨hw,hv⟩ | ⟨hw,rfl⟩
 ·simp only[hw,if_true,Oper.wp,hv w hC,Oper.upon];exact .inl h
 ·simp only[hw,Bool.false_eq_true,if_false];exact h
theorem YieldsC.of_same{o:Oper}{v:Value}{a a':Act} (hy:YieldsC P ops C o v a) (he:execOp a'.eval o=execOp a.eval o)
  (hw:Region.wanted o (yielded ops a'.tmps)=Region.wanted o (yielded ops a.tmps)):YieldsC P ops C o v a':=by
 unfold YieldsC at *
 rw[he,hw]
 exact hy
theorem wpOp_putC{j:Nat}{oi oj:Oper}{v:Value} (hj:ops[j]?=some oj) (hap:oi.apart ops oj=true)
  (hsi:∀cs b,oi.op≠.select cs b) (hsj:∀cs b,oj.op≠.select cs b)
  (hQ:∀c a w,Q (.panic c) (a.put oi.dst v) w→Q (.panic c) a w){K:Act→World→Prop}{a:Act}{w:World}
  (hy:YieldsC P ops C oi v a) (h:wpOp P ops Q j K (a.put oi.dst v) w) :
  wpOp P ops Q j (fun a' w'=>YieldsC P ops C oi v a'∧K (a'.put oi.dst v) w') a w:=by
 have ob:=Oper.apart_spec hap
 obtain⟨h1,h2,h3⟩:=ob
 have keep:∀(a:Act),YieldsC P ops C oi v a→∀u,YieldsC P ops C oi v (a.put oj.dst u):=fun a hy u=>
  hy.of_same (execOp_put oi hsi a oj.dst u h3) (wanted_put oi a oj.dst u h3)
 have keepD:∀d,YieldsC P ops C oi v { a with defers:=d::a.defers }:=fun d=>hy.of_same rfl rfl
 unfold wpOp at *
 simp only[hj] at *
 rw[wanted_put oj a oi.dst v h1] at h
 split
 ·rename_i hw
  simp only[hw,if_true] at h
  rcases h with h | ⟨hasks,hlets⟩
  case inr=>exact .inr ⟨by unfold Oper.asks at *;rw[execOp_put oj hsj a oi.dst v h1] at hasks;exact hasks,hlets⟩
  refine .inl ?_
  unfold Oper.wp at *
  rw[execOp_put oj hsj a oi.dst v h1] at h
  generalize (execOp a.eval oj).run P w=r at *
  cases r with
  | ok n w'=>
   cases n <;> simp only[Oper.upon] at h⊢
   case value u=>exact⟨keep a hy u,by rw[←Act.put_comm a v u h2];exact h⟩
   case skip=>exact⟨keep a hy _,by rw[←Act.put_comm a v undef h2];exact h⟩
   case defer d=>
    refine⟨keep _ (keepD d) _,?_⟩
    rw[←Act.put_comm _ v undef h2,←Act.put_defers]
    exact h
   case enter f args=>
    refine Calls.mono h fun e w'' he=>?_
    cases e with
    | returned u=>exact⟨keep a hy u,by rw[←Act.put_comm a v u h2];exact he⟩
    | panicked c=>exact hQ _ _ _ he
    | outgrown=>exact he
   case row row args=>exact Rows.mono h fun u w'' he=>⟨keep a hy u,by rw[←Act.put_comm a v u h2];exact he⟩
  | halt x w'=>
   cases x <;> simp only[Oper.upon] at h⊢
   case panic u=>exact hQ _ _ _ h
 ·rename_i hw
  simp only[hw] at h
  exact⟨keep a hy _,by rw[←Act.put_comm a v undef h2];exact h⟩
def endsBehind (md:Region.Mode) (ops:Array Oper) (i s:Nat):Bool:=match ops[s]? with
 | some os=>os.after.any fun e=>Region.binds md e && e.on == i
 | none=>true
theorem wpAnyI_first{s i:Nat}{oi:Oper}{v:Value}{D:World→Prop} (J:Array Bool→Prop) (hi:ops[i]?=some oi) (hsel:∀(j:Nat) (o:Oper) cs b,ops[j]?=some o→o.op≠.select cs b)
  (hJ:∀listed j,J listed→i∈Region.ready md ops listed→j∈Region.ready md ops listed→j≠i→J (listed.setIfInBounds j true))
  (hD:∀listed w,J listed→A w∧((listed.setIfInBounds i true).getD s false=false→C w)→D w∧(listed.getD s false=false→C w))
  (hQ:∀c a w,Q (.panic c) (a.put oi.dst v) w→Q (.panic c) a w) :
  ∀(fuel:Nat) (listed:Array Bool) (a:Act) (w:World),J listed→
   (∀j oj,ops[j]?=some oj→j≠i→listed.getD j true=false→(∀e∈oj.after,Region.binds md e=true→e.on≠i)→oi.apart ops oj=true)→
   i∈Region.ready md ops listed→YieldsC P ops D oi v a→
   wpAnyI P md ops Q s A C fuel (listed.setIfInBounds i true) (a.put oi.dst v) w→wpAnyI P md ops Q s A C (fuel+1) listed a w:=by
 intro fuel
 induction fuel with
 | zero=>
  intro listed a w hu _ hr hy H
  have hC:=hD listed w hu H.1
  refine⟨⟨H.1.1,hC.2⟩,fun h=>(by rw[h] at hr;cases hr),fun j hj=>?_⟩
  by_cases hji:j=i
  ·subst hji;exact hy.wpOp hi hC.1 H
  ·have:=ready_mono hj hji
   rw[H.2.1] at this
   cases this
 | succ fuel ih=>
  intro listed a w hu hfree hr hy H
  have hC:=hD listed w hu H.1
  refine⟨⟨H.1.1,hC.2⟩,fun h=>(by rw[h] at hr;cases hr),fun j hj=>?_⟩
  by_cases hji:j=i
  ·subst hji;exact hy.wpOp hi hC.1 H
  ·have h1:=H.2.2 j (ready_mono hj hji)
   have ob:=mem_ready.1 hj
   obtain⟨hjun,oj,hoj,hall⟩:=ob
   have hnot:∀e∈oj.after,Region.binds md e=true→e.on≠i:=fun e he hb heq=>by
    have h1:=hall e he hb
    have h0:=(mem_ready.1 hr).1
    rw[heq] at h1
    rcases Nat.lt_or_ge i listed.size with h' | h'
    ·simp[h'] at h0 h1;rw[h0] at h1;cases h1
    ·simp[Array.getElem?_eq_none h'] at h1
   have h2:=wpOp_putC hoj (hfree j oj hoj hji hjun hnot) (fun cs b=>hsel i oi cs b hi) (fun cs b=>hsel j oj cs b hoj) hQ hy h1
   have hfree':∀k ok,ops[k]?=some ok→k≠i→(listed.setIfInBounds j true).getD k true=false→
     (∀e∈ok.after,Region.binds md e=true→e.on≠i)→oi.apart ops ok=true:=fun k ok hk hki hun hno=>by
    refine hfree k ok hk hki ?_ hno
    by_cases hjk:j=k
    ·subst hjk;exact hjun
    ·rw[getD_set_ne true hjk] at hun;exact hun
   refine wpOp_mono (fun a' w' h3=>ih (listed.setIfInBounds j true) a' w' (hJ listed j hu hr hj hji) hfree' (ready_mono hr (Ne.symm hji)) h3.1 ?_) h2
   rw[Array.setIfInBounds_comm _ _ hji]
   exact h3.2
theorem wpAnyI_firstC{s i:Nat}{oi:Oper}{v:Value} (hi:ops[i]?=some oi) (hsel:∀(j:Nat) (o:Oper) cs b,ops[j]?=some o→o.op≠.select cs b)
  (hs:endsBehind md ops i s=true) (his:i≠s) (hQ:∀c a w,Q (.panic c) (a.put oi.dst v) w→Q (.panic c) a w){fuel:Nat}{listed:Array Bool}{a:Act}{w:World} (hu:listed.getD s false=false)
  (hf:∀j oj,ops[j]?=some oj→j≠i→listed.getD j true=false→(∀e∈oj.after,Region.binds md e=true→e.on≠i)→oi.apart ops oj=true)
  (hr:i∈Region.ready md ops listed) (hy:YieldsC P ops C oi v a) (h:wpAnyI P md ops Q s A C fuel (listed.setIfInBounds i true) (a.put oi.dst v) w):wpAnyI P md ops Q s A C (fuel+1) listed a w:=
 wpAnyI_first (D:=C) (fun listed=>listed.getD s false=false) hi hsel (fun listed j hJ hri hrj hji=>by
  have hjs:j≠s:=fun e=>by
   subst e
   have ob:=mem_ready.1 hrj
   obtain⟨_,oj,hoj,hall⟩:=ob
   simp only[endsBehind,hoj] at hs
   have ob:=Array.any_eq_true'.1 hs
   obtain⟨e,he,hb⟩:=ob
   simp only[Bool.and_eq_true,beq_iff_eq] at hb
   have h1:=hall e he hb.1
   have h0:=(mem_ready.1 hri).1
   rw[hb.2] at h1
   rcases Nat.lt_or_ge i listed.size with h' | h'
   ·simp[h'] at h0 h1;rw[h0] at h1;cases h1
   ·simp[Array.getElem?_eq_none h'] at h1
  show(listed.setIfInBounds j true).getD s false=false
  rw[getD_set_ne false hjs];exact hJ) (fun listed w hJ h=>by
  have:=h.2 (by rw[getD_set_ne false his];exact hJ)
  exact⟨this,fun _=>this⟩) hQ fuel listed a w hu hf hr hy h
theorem wpAnyI_firstA{s i:Nat}{oi:Oper}{v:Value} (hi:ops[i]?=some oi) (hsel:∀(j:Nat) (o:Oper) cs b,ops[j]?=some o→o.op≠.select cs b)
  (his:i≠s) (hQ:∀c a w,Q (.panic c) (a.put oi.dst v) w→Q (.panic c) a w){fuel:Nat}{listed:Array Bool}{a:Act}{w:World}
  (hf:∀j oj,ops[j]?=some oj→j≠i→listed.getD j true=false→(∀e∈oj.after,Region.binds md e=true→e.on≠i)→oi.apart ops oj=true)
  (hr:i∈Region.ready md ops listed) (hy:YieldsC P ops A oi v a) (h:wpAnyI P md ops Q s A C fuel (listed.setIfInBounds i true) (a.put oi.dst v) w):wpAnyI P md ops Q s A C (fuel+1) listed a w:=
 wpAnyI_first (D:=A) (fun _=>True) hi hsel (fun _ _ _ _ _ _=>trivial) (fun listed w _ h=>⟨h.1,fun h0=>h.2 (by rw[getD_set_ne false his];exact h0)⟩) hQ fuel listed a w trivial hf hr hy h
end any
def lst (n:Nat) (done:List Nat):Array Bool:=done.foldr (fun i l=>l.setIfInBounds i true) (Array.replicate n false)
section al
variable{P:Program}{ops:Array Oper}{n:Nat}{f:Slots}{ds:List Deferred}{w:World}{A C:World→Prop}{s:Nat}{Qn:Slots→World→Prop}{Qp:List PanicEntry→World→Prop}
def anyPost (n:Nat) (ds:List Deferred) (Qn:Slots→World→Prop) (Qp:List PanicEntry→World→Prop):Exit→Act→World→Prop
 | .normal,a,w=>∃f,Rep n f ds a∧Qn f w
 | .panic c,a,w=>a.tmps.size=n∧a.defers=ds∧Qp c w
 | _,_,_=>False
structure AL (P:Program) (ops:Array Oper) (s:Nat) (A C:World→Prop) (Qn:Slots→World→Prop) (Qp:List PanicEntry→World→Prop) (n:Nat) (ds:List Deferred) (fuel:Nat) (done:List Nat) (f:Slots) (w:World):Prop where
 out:∀a,Rep n f ds a→wpAnyI P .any ops (anyPost n ds Qn Qp) s A C fuel (lst ops.size done) a w
def quietAt (ops:Array Oper) (s:Nat) (done:List Nat) (i:Nat):Bool:=endsBehind .any ops i s && i != s && !(lst ops.size done).getD s false && Region.noSelect ops && Region.free .any ops (lst ops.size done) i && (Region.ready .any ops (lst ops.size done)).contains i
def quietA (ops:Array Oper) (s:Nat) (done:List Nat) (i:Nat):Bool:=i != s && Region.noSelect ops && Region.free .any ops (lst ops.size done) i && (Region.ready .any ops (lst ops.size done)).contains i
theorem AL.panicKept{o:Option Tmp}{v:Value}:∀(c:List PanicEntry) (a:Act) (w:World),anyPost n ds Qn Qp (.panic c) (a.put o v) w→anyPost n ds Qn Qp (.panic c) a w:=by
 rintro c a' w' ⟨h1,h2,h3⟩
 refine⟨?_,?_,h3⟩
 ·rw[←h1];cases o <;> simp[Act.put]
 ·rw[←h2];cases o <;> rfl
theorem AL.first{fuel:Nat}{done:List Nat} (i:Nat){oi:Oper}{v:Value}{f':Slots} (hi:ops[i]?=some oi) (hq:quietAt ops s done i=true)
  (hrep:∀a,Rep n f ds a→Rep n f' ds (a.put oi.dst v)) (hy:∀a,Rep n f ds a→YieldsC P ops C oi v a)
  (h:AL P ops s A C Qn Qp n ds fuel (i::done) f' w):AL P ops s A C Qn Qp n ds (fuel+1) done f w:=by
 simp only[quietAt,Bool.and_eq_true,bne_iff_ne,Bool.not_eq_true'] at hq
 obtain⟨⟨⟨⟨⟨hq1,hq2⟩,hq3⟩,hq4⟩,hq5⟩,hq6⟩:=hq
 exact⟨fun a ha=>wpAnyI_firstC hi (Region.noSelect_spec hq4) hq1 hq2 AL.panicKept hq3 (Region.free_spec hi hq5) (by simpa using hq6) (hy a ha) (h.out _ (hrep a ha))⟩
theorem AL.firstA{fuel:Nat}{done:List Nat} (i:Nat){oi:Oper}{v:Value}{f':Slots} (hi:ops[i]?=some oi) (hq:quietA ops s done i=true)
  (hrep:∀a,Rep n f ds a→Rep n f' ds (a.put oi.dst v)) (hy:∀a,Rep n f ds a→YieldsC P ops A oi v a)
  (h:AL P ops s A C Qn Qp n ds fuel (i::done) f' w):AL P ops s A C Qn Qp n ds (fuel+1) done f w:=by
 simp only[quietA,Bool.and_eq_true,bne_iff_ne] at hq
 obtain⟨⟨⟨hq2,hq4⟩,hq5⟩,hq6⟩:=hq
 exact⟨fun a ha=>wpAnyI_firstA hi (Region.noSelect_spec hq4) hq2 AL.panicKept (Region.free_spec hi hq5) (by simpa using hq6) (hy a ha) (h.out _ (hrep a ha))⟩
section
variable{o:Op}{ty:TypeId}{pos:String}{af:Array Edge}{fuel:Nat}{done:List Nat}
theorem AL.val (i:Nat){d:Nat}{v:Value} (hi:ops[i]?=some ⟨some d,o,ty,pos,af,none⟩) (hq:quietAt ops s done i=true) (hd:Nat.blt d n=true)
  (hrun:∀w,C w→(execOp (ev f) ⟨some d,o,ty,pos,af,none⟩).run P w=.ok (.value v) w)
  (h:AL P ops s A C Qn Qp n ds fuel (i::done) (upd f d v) w):AL P ops s A C Qn Qp n ds (fuel+1) done f w:=
 .first i hi hq (fun a ha=>ha.put hd v) (fun a ha=>.inl ⟨by simp[Region.wanted],fun w hw=>by rw[ha.eval];exact hrun w hw⟩) h
theorem AL.valY (i:Nat){d j dj:Nat}{v:Value}{want:Bool} (hi:ops[i]?=some ⟨some d,o,ty,pos,af,some (j,want)⟩) (hq:quietAt ops s done i=true) (hd:Nat.blt d n=true)
  (hj:(ops[j]?).bind (·.dst)=some dj) (hdj:Nat.blt dj n=true) (hv:f dj=.bool want)
  (hrun:∀w,C w→(execOp (ev f) ⟨some d,o,ty,pos,af,none⟩).run P w=.ok (.value v) w)
  (h:AL P ops s A C Qn Qp n ds fuel (i::done) (upd f d v) w):AL P ops s A C Qn Qp n ds (fuel+1) done f w:=
 .first i hi hq (fun a ha=>ha.put hd v) (fun a ha=>.inl ⟨by
  have hy:=yielded_rep (ops:=ops) ha hj hdj
  rw[hv] at hy
  simp only[Region.wanted,hy,beq_self_eq_true],fun w hw=>by rw[ha.eval];exact hrun w hw⟩) h
theorem AL.valN (i:Nat){d j dj:Nat}{want:Bool} (hi:ops[i]?=some ⟨some d,o,ty,pos,af,some (j,want)⟩) (hq:quietAt ops s done i=true) (hd:Nat.blt d n=true)
  (hj:(ops[j]?).bind (·.dst)=some dj) (hdj:Nat.blt dj n=true) (hv:f dj=.bool (!want)∨f dj=undef)
  (h:AL P ops s A C Qn Qp n ds fuel (i::done) (upd f d undef) w):AL P ops s A C Qn Qp n ds (fuel+1) done f w:=
 .first i hi hq (fun a ha=>ha.put hd undef) (fun a ha=>.inr ⟨by
  have hy:=yielded_rep (ops:=ops) ha hj hdj
  simp only[Region.wanted,hy]
  rcases hv with hv | hv
  ·rw[hv];cases want <;> rfl
  ·rw[hv];rfl,rfl⟩) h
theorem AL.valA (i:Nat){d:Nat}{v:Value} (hi:ops[i]?=some ⟨some d,o,ty,pos,af,none⟩) (hq:quietA ops s done i=true) (hd:Nat.blt d n=true)
  (hrun:∀w,A w→(execOp (ev f) ⟨some d,o,ty,pos,af,none⟩).run P w=.ok (.value v) w)
  (h:AL P ops s A C Qn Qp n ds fuel (i::done) (upd f d v) w):AL P ops s A C Qn Qp n ds (fuel+1) done f w:=
 .firstA i hi hq (fun a ha=>ha.put hd v) (fun a ha=>.inl ⟨by simp[Region.wanted],fun w hw=>by rw[ha.eval];exact hrun w hw⟩) h
def alPost (P:Program) (ops:Array Oper) (s:Nat) (A C:World→Prop) (Qn:Slots→World→Prop) (Qp:List PanicEntry→World→Prop) (n:Nat) (ds:List Deferred) (fuel:Nat) (done:List Nat):Post
 | .normal,f,ds',w=>ds'=ds∧AL P ops s A C Qn Qp n ds fuel done f w
 | .panic c,f,ds',w=>ds'=ds∧Qp c w
 | _,_,_,_=>False
theorem wpOp_of_WL{i:Nat}{o:Oper} (hi:ops[i]?=some o) (h:WL P ops (alPost P ops s A C Qn Qp n ds fuel (i::done)) n [o] f ds w){a:Act} (ha:Rep n f ds a) :
  wpOp P ops (anyPost n ds Qn Qp) i (wpAnyI P .any ops (anyPost n ds Qn Qp) s A C fuel ((lst ops.size done).setIfInBounds i true)) a w:=by
 have h1:=h.out a ha
 have e:(lst ops.size done).setIfInBounds i true=lst ops.size (i::done):=rfl
 rw[e]
 have hn:∀a' w',lift n (alPost P ops s A C Qn Qp n ds fuel (i::done)) .normal a' w'→wpAnyI P .any ops (anyPost n ds Qn Qp) s A C fuel (lst ops.size (i::done)) a' w':=by
  rintro a' w' ⟨f',ds',hr,rfl,hA⟩
  exact hA.out a' hr
 unfold wpOp
 simp only[hi]
 simp only[wpList] at h1
 split
 ·rename_i hw
  simp only[hw,if_true] at h1
  rcases h1 with h1 | ⟨_,a0,w0,f0,ds0,_,hF⟩
  ·refine .inl ?_
   unfold Oper.wp at h1⊢
   generalize (execOp a.eval o).run P w=r at h1⊢
   cases r with
   | ok x w'=>
    cases x <;> simp only[Oper.upon] at h1⊢
    case value=>exact hn _ _ h1
    case skip=>exact hn _ _ h1
    case defer=>exact hn _ _ h1
    case enter=>
     refine h1.mono fun e w' hR=>?_
     cases e with
     | returned v=>exact hn _ _ hR
     | panicked ch=>obtain⟨f0,ds0,hr,rfl,hp⟩:=hR;exact⟨hr.size,hr.defers,hp⟩
     | outgrown=>obtain⟨a1,w1,f0,ds0,_,hF⟩:=hR;exact hF.elim
    case row=>exact h1.mono fun v w' hR=>hn _ _ hR
   | halt x w'=>
    cases x <;> simp only[Oper.upon] at h1⊢
    obtain⟨f0,ds0,hr,rfl,hp⟩:=h1
    exact⟨hr.size,hr.defers,hp⟩
  ·exact hF.elim
 ·rename_i hw
  simp only[hw] at h1
  exact hn _ _ h1
theorem AL.fork (rs:List Nat) (hr:(Region.ready .any ops (lst ops.size done))=rs) (hne:rs.isEmpty=false) (hA:A w) (hC:C w)
  (h:∀i∈rs,∃o,ops[i]?=some o∧WL P ops (alPost P ops s A C Qn Qp n ds fuel (i::done)) n [o] f ds w):AL P ops s A C Qn Qp n ds (fuel+1) done f w:=
 ⟨fun a ha=>⟨⟨hA,fun _=>hC⟩,fun h0=>(by rw[hr] at h0;rw[h0] at hne;cases hne),fun i hi=>by
  have ob:=h i (by rw[←hr];exact hi)
  obtain⟨o,ho,hw⟩:=ob
  exact wpOp_of_WL ho hw ha⟩⟩
theorem AL.one (i:Nat){o:Oper} (hr:(Region.ready .any ops (lst ops.size done))=[i]) (hi:ops[i]?=some o) (hA:A w) (hC:C w)
  (h:WL P ops (alPost P ops s A C Qn Qp n ds fuel (i::done)) n [o] f ds w):AL P ops s A C Qn Qp n ds (fuel+1) done f w:=
 .fork [i] hr rfl hA hC (fun k hk=>by simp at hk;subst hk;exact⟨o,hi,h⟩)
theorem AL.two (i j:Nat){o o':Oper} (hr:(Region.ready .any ops (lst ops.size done))=[i,j]) (hi:ops[i]?=some o) (hj:ops[j]?=some o') (hA:A w) (hC:C w)
  (h:WL P ops (alPost P ops s A C Qn Qp n ds fuel (i::done)) n [o] f ds w) (h':WL P ops (alPost P ops s A C Qn Qp n ds fuel (j::done)) n [o'] f ds w):AL P ops s A C Qn Qp n ds (fuel+1) done f w:=
 .fork [i,j] hr rfl hA hC (fun k hk=>by
  simp at hk
  rcases hk with rfl | rfl
  ·exact⟨o,hi,h⟩
  ·exact⟨o',hj,h'⟩)
theorem AL.three (i j k:Nat){o o' o'':Oper} (hr:(Region.ready .any ops (lst ops.size done))=[i,j,k]) (hi:ops[i]?=some o) (hj:ops[j]?=some o') (hk:ops[k]?=some o'') (hA:A w) (hC:C w)
  (h:WL P ops (alPost P ops s A C Qn Qp n ds fuel (i::done)) n [o] f ds w) (h':WL P ops (alPost P ops s A C Qn Qp n ds fuel (j::done)) n [o'] f ds w)
  (h'':WL P ops (alPost P ops s A C Qn Qp n ds fuel (k::done)) n [o''] f ds w):AL P ops s A C Qn Qp n ds (fuel+1) done f w:=
 .fork [i,j,k] hr rfl hA hC (fun m hm=>by
  simp at hm
  rcases hm with rfl | rfl | rfl
  ·exact⟨o,hi,h⟩
  ·exact⟨o',hj,h'⟩
  ·exact⟨o'',hk,h''⟩)
theorem AL.end (hr:(Region.ready .any ops (lst ops.size done)).isEmpty=true) (hA:A w) (hC:C w) (h:Qn f w):AL P ops s A C Qn Qp n ds 0 done f w:=
 ⟨fun a ha=>⟨⟨hA,fun _=>hC⟩,by simpa using hr,f,ha,h⟩⟩
theorem AL.relax (hu:(lst ops.size done).getD s false=true) (h:AL P ops 1000000 A (fun _=>True) Qn Qp n ds fuel done f w):AL P ops s A C Qn Qp n ds fuel done f w:=
 ⟨fun a ha=>(h.out a ha).relax hu⟩
end
theorem CW.any{Q:Post}{id:Nat}{l:List Oper} (s k:Nat) (hm:P.follows .mixedOrders=true) (hk:l.length=k)
  (h:AL P l.toArray s A C (fun f w=>Q .normal f ds w) (fun c w=>∀f,Q (.panic c) f ds w) n ds k [] f w.drew):CW P (.region id l.toArray true) Q n f ds w:=
 ⟨fun a ha=>by
  refine Code.wp_mono ?_ (wp_region_any (Q:=anyPost n ds (fun f w=>Q .normal f ds w) (fun c w=>∀f,Q (.panic c) f ds w)) hm ?_)
  ·intro e a' w' hq
   cases e with
   | normal=>obtain⟨f',hr,hq⟩:=hq;exact⟨f',ds,hr,hq⟩
   | panic c=>obtain⟨h1,h2,hq⟩:=hq;exact⟨fun t=>a'.tmps.getD t undef,ds,⟨h1,fun t=>rfl,h2⟩,hq _⟩
   | exit id=>exact hq.elim
   | goto id=>exact hq.elim
   | ret=>exact hq.elim
   | outgrown=>exact hq.elim
  ·have h1:=(h.out a ha).any
   have e:l.toArray.size=k:=by simp[hk]
   rw[e] at h1⊢
   exact h1⟩
end al
end Go.Gx
