/- Regions that draw their order and hold a call of yield, in an iterator's own frame: quiet operations may be taken first. No program in sight. Ranges over a function of two values. No program in sight. Within a round: regions that draw their order. No program in sight. The sequence that All tells, as -/
import Derived.Test.YtplmnkogkfhaiaaGreatT6
import Derived.OrdersIn
import Derived.Test.YtplmnkogkfhaiaaGreatT2
set_option linter.unusedVariables false
set_option linter.unusedSimpArgs false
set_option maxRecDepth 100000
namespace Go.Gx
section any
variable{P:Program}{ops:Array Oper}{Q:Exit→Act→World→Prop}{md:Region.Mode}{C:World→Prop}
def wpAnyJ (P:Program) (md:Region.Mode) (ops:Array Oper) (Q:Exit→Act→World→Prop) (s:Nat) (C:World→Prop):Nat→Array Bool→Act→World→Prop
 | 0,listed,a,w=>(listed.getD s false=false→C w)∧Region.ready md ops listed=[]∧Q .normal a w
 | fuel+1,listed,a,w=>(listed.getD s false=false→C w)∧(Region.ready md ops listed=[]→Q .normal a w)∧
  ∀i∈Region.ready md ops listed,wpOpIn (Fr none) 0 P ops Q i (wpAnyJ P md ops Q s C fuel (listed.setIfInBounds i true)) a w
theorem wpAnyJ.relax {s s':Nat}{C':World→Prop}:∀{fuel:Nat}{listed:Array Bool}{a:Act}{w:World},listed.getD s false=true→wpAnyJ P md ops Q s' C' fuel listed a w→wpAnyJ P md ops Q s C fuel listed a w
 | 0,_,_,_,hu,h=>⟨fun h0=>(by rw[hu] at h0;cases h0),h.2.1,h.2.2⟩
 | _+1,_,_,_,hu,h=>⟨fun h0=>(by rw[hu] at h0;cases h0),h.2.1,fun i hi=>wpOpIn_mono (fun _ _ h'=>wpAnyJ.relax (getD_set_true hu) h') (h.2.2 i hi)⟩
theorem wpAnyJ.any{s:Nat}:∀{fuel:Nat}{listed:Array Bool}{a:Act}{w:World},wpAnyJ P md ops Q s C fuel listed a w→wpAnyIn (Fr none) 0 P md ops Q fuel listed a w
 | 0,_,_,_,h=>h.2
 | _+1,_,_,_,h=>⟨h.2.1,fun i hi=>wpOpIn_mono (fun _ _ h'=>wpAnyJ.any h') (h.2.2 i hi)⟩
theorem YieldsC.wpOpIn{i:Nat}{o:Oper}{v:Value}{a:Act} (hi:ops[i]?=some o) (hy:YieldsC P ops C o v a)
  {K:Act→World→Prop}{w:World} (hC:C w) (h:K (a.put o.dst v) w):wpOpIn (Fr none) 0 P ops Q i K a w:=by
 unfold Go.wpOpIn
 simp only[hi]
 rcases hy with⟨hw,hv⟩ | ⟨hw,rfl⟩
 ·simp only[hw,if_true]
  refine⟨fun f _=>trivial,?_⟩
  show o.uponIn (Fr none) 0 P a K Q ((execOp a.eval o).run P w)
  rw[hv w hC]
  exact h
 ·simp only[hw,Bool.false_eq_true,if_false];exact⟨fun f _=>trivial,h⟩
theorem wpOpIn_putC{j:Nat}{oi oj:Oper}{v:Value} (hj:ops[j]?=some oj) (hap:oi.apart ops oj=true)
  (hsi:∀cs b,oi.op≠.select cs b) (hsj:∀cs b,oj.op≠.select cs b)
  (hQ:∀c a w,Q (.panic c) (a.put oi.dst v) w→Q (.panic c) a w){K:Act→World→Prop}{a:Act}{w:World}
  (hy:YieldsC P ops C oi v a) (h:wpOpIn (Fr none) 0 P ops Q j K (a.put oi.dst v) w) :
  wpOpIn (Fr none) 0 P ops Q j (fun a' w'=>YieldsC P ops C oi v a'∧K (a'.put oi.dst v) w') a w:=by
 have ob:=Oper.apart_spec hap
 obtain⟨h1,h2,h3⟩:=ob
 have keep:∀(a:Act),YieldsC P ops C oi v a→∀u,YieldsC P ops C oi v (a.put oj.dst u):=fun a hy u=>
  hy.of_same (execOp_put oi hsi a oj.dst u h3) (wanted_put oi a oj.dst u h3)
 have keepD:∀d,YieldsC P ops C oi v { a with defers:=d::a.defers }:=fun d=>hy.of_same rfl rfl
 unfold wpOpIn at *
 simp only[hj] at *
 rw[wanted_put oj a oi.dst v h1] at h
 split
 ·rename_i hw
  simp only[hw,if_true] at h
  unfold Oper.wpIn at *
  refine⟨fun f _=>trivial,?_⟩
  have h:=h.2
  have e0:∀ρ,oj.semAt (Fr none).round ρ=execOp ρ oj:=fun _=>rfl
  rw[e0,execOp_put oj hsj a oi.dst v h1] at h
  rw[e0]
  generalize (execOp a.eval oj).run P w=r at *
  cases r with
  | ok x w'=>
   cases x <;> simp only[Oper.uponIn] at h⊢
   case value u=>exact⟨keep a hy u,by rw[←Act.put_comm a v u h2];exact h⟩
   case skip=>exact⟨keep a hy _,by rw[←Act.put_comm a v undef h2];exact h⟩
   case defer d=>
    refine⟨keep _ (keepD d) _,?_⟩
    rw[←Act.put_comm _ v undef h2,←Act.put_defers]
    exact h
   case enter f args=>
    refine⟨h.1,CallsIn.mono h.2 fun e w'' he=>?_⟩
    cases e with
    | returned u=>exact⟨keep a hy u,by rw[←Act.put_comm a v u h2];exact he⟩
    | panicked c=>exact hQ _ _ _ he
    | outgrown=>exact he
   case row row args=>exact⟨h.1,RowsIn.mono h.2 fun u w'' he=>⟨keep a hy u,by rw[←Act.put_comm a v u h2];exact he⟩⟩
   case round l f tmps assign body=>
    refine⟨h.1,RoundIn.mono h.2 fun e w'' he=>?_⟩
    cases e with
    | returned u=>exact⟨keep a hy u,by rw[←Act.put_comm a v u h2];exact he⟩
    | panicked c=>exact hQ _ _ _ he
    | outgrown=>exact he
  | halt x w'=>
   cases x <;> simp only[Oper.uponIn] at h⊢
   case panic u=>exact hQ _ _ _ h
 ·rename_i hw
  simp only[hw] at h
  exact⟨fun f _=>trivial,keep a hy _,by rw[←Act.put_comm a v undef h2];exact h.2⟩
def chainOf (md:Region.Mode) (ops:Array Oper):Nat→List Nat→Bool
 | _,[]=>true
 | i,j::path=>(match ops[j]? with | some oj=>oj.after.any fun e=>Region.binds md e && e.on == i | none=>true) && chainOf md ops j path
theorem chain_wait{md:Region.Mode}:∀(i:Nat) (path:List Nat){listed:Array Bool},chainOf md ops i path=true→i<listed.size→listed.getD i false=false→(∀p∈path,listed.getD p false=false)→(∀p∈path,p<listed.size)→∀p∈path,p∉Region.ready md ops listed
 | _,[],_,_,_,_,_,_,p,hp=>by cases hp
 | i,j::path,listed,hc,hil,hi,hu,hsz,p,hp=>by
  simp only[chainOf,Bool.and_eq_true] at hc
  rcases List.mem_cons.1 hp with rfl | hp
  ·intro hr
   have ob:=mem_ready.1 hr
   obtain⟨_,oj,hoj,hall⟩:=ob
   have h1:=hc.1
   rw[hoj] at h1
   have ob:=Array.any_eq_true'.1 h1
   obtain⟨e,he,hb⟩:=ob
   simp only[Bool.and_eq_true,beq_iff_eq] at hb
   have h2:=hall e he hb.1
   rw[hb.2] at h2
   simp[hil] at hi h2
   rw[hi] at h2
   cases h2
  ·exact chain_wait j path hc.2 (hsz j (by simp)) (hu j (by simp)) (fun q hq=>hu q (by simp[hq])) (fun q hq=>hsz q (by simp[hq])) p hp
theorem wpAnyJ_first{s i:Nat}{oi:Oper}{v:Value} (path:List Nat) (hi:ops[i]?=some oi) (hsel:∀(j:Nat) (o:Oper) cs b,ops[j]?=some o→o.op≠.select cs b)
  (hs:s∈path) (hch:chainOf md ops i path=true) (hnp:i∉path)
  (hQ:∀c a w,Q (.panic c) (a.put oi.dst v) w→Q (.panic c) a w) :
  ∀(fuel:Nat) (listed:Array Bool) (a:Act) (w:World),i<listed.size→(∀p∈path,p<listed.size)→(∀p∈path,listed.getD p false=false)→
   (∀j oj,ops[j]?=some oj→j≠i→listed.getD j true=false→(∀e∈oj.after,Region.binds md e=true→e.on≠i)→oi.apart ops oj=true)→
   i∈Region.ready md ops listed→YieldsC P ops C oi v a→
   wpAnyJ P md ops Q s C fuel (listed.setIfInBounds i true) (a.put oi.dst v) w→wpAnyJ P md ops Q s C (fuel+1) listed a w:=by
 have hsi:i≠s:=fun e=>by subst e;exact hnp hs
 have hC0:∀(fuel:Nat) (listed:Array Bool) (a:Act) (w:World),(∀p∈path,listed.getD p false=false)→wpAnyJ P md ops Q s C fuel (listed.setIfInBounds i true) a w→C w:=by
  intro fuel listed a w hu H
  have hs0:(listed.setIfInBounds i true).getD s false=false:=by rw[getD_set_ne false hsi];exact hu s hs
  cases fuel with
  | zero=>exact H.1 hs0
  | succ n=>exact H.1 hs0
 intro fuel
 induction fuel with
 | zero=>
  intro listed a w hil hps hu _ hr hy H
  have hC:=hC0 0 listed _ w hu H
  refine⟨fun _=>hC,fun h=>(by rw[h] at hr;cases hr),fun j hj=>?_⟩
  by_cases hji:j=i
  ·subst hji;exact hy.wpOpIn hi hC H
  ·have:=ready_mono hj hji
   rw[H.2.1] at this
   cases this
 | succ fuel ih=>
  intro listed a w hil hps hu hfree hr hy H
  have hC:=hC0 _ listed _ w hu H
  refine⟨fun _=>hC,fun h=>(by rw[h] at hr;cases hr),fun j hj=>?_⟩
  by_cases hji:j=i
  ·subst hji;exact hy.wpOpIn hi hC H
  ·have h1:=H.2.2 j (ready_mono hj hji)
   have ob:=mem_ready.1 hj
   obtain⟨hjun,oj,hoj,hall⟩:=ob
   have hiun:listed.getD i false=false:=by
    have h0:=(mem_ready.1 hr).1
    simp[hil] at h0⊢
    exact h0
   have hnot:∀e∈oj.after,Region.binds md e=true→e.on≠i:=fun e he hb heq=>by
    have h1:=hall e he hb
    rw[heq] at h1
    simp[hil] at hiun h1
    rw[hiun] at h1
    cases h1
   have h2:=wpOpIn_putC hoj (hfree j oj hoj hji hjun hnot) (fun cs b=>hsel i oi cs b hi) (fun cs b=>hsel j oj cs b hoj) hQ hy h1
   have hfree':∀k ok,ops[k]?=some ok→k≠i→(listed.setIfInBounds j true).getD k true=false→
     (∀e∈ok.after,Region.binds md e=true→e.on≠i)→oi.apart ops ok=true:=fun k ok hk hki hun hno=>by
    refine hfree k ok hk hki ?_ hno
    by_cases hjk:j=k
    ·subst hjk;exact hjun
    ·rw[getD_set_ne true hjk] at hun;exact hun
   have hjp:j∉path:=fun hjp=>chain_wait i path hch hil hiun hu hps j hjp hj
   refine wpOpIn_mono (fun a' w' h3=>ih (listed.setIfInBounds j true) a' w' (by simpa using hil) (fun p hp=>by simpa using hps p hp) (fun p hp=>by
    have hne:j≠p:=fun e=>by subst e;exact hjp hp
    rw[getD_set_ne false hne];exact hu p hp) hfree' (ready_mono hr (Ne.symm hji)) h3.1 ?_) h2
   rw[Array.setIfInBounds_comm _ _ hji]
   exact h3.2
end any
section al
variable{P:Program}{ops:Array Oper}{n:Nat}{f:Slots}{ds:List Deferred}{w:World}{C:World→Prop}{s:Nat}{Qn:Slots→World→Prop}{Qp:List PanicEntry→World→Prop}
structure ALI (P:Program) (ops:Array Oper) (s:Nat) (C:World→Prop) (Qn:Slots→World→Prop) (Qp:List PanicEntry→World→Prop) (n:Nat) (ds:List Deferred) (fuel:Nat) (done:List Nat) (f:Slots) (w:World):Prop where
 out:∀a,Rep n f ds a→wpAnyJ P .any ops (anyPost n ds Qn Qp) s C fuel (lst ops.size done) a w
def quietJ (ops:Array Oper) (s:Nat) (path done:List Nat) (i:Nat):Bool:=
 path.contains s && chainOf .any ops i path && !path.contains i && decide (i<(lst ops.size done).size) && path.all (fun p=>decide (p<(lst ops.size done).size) && !(lst ops.size done).getD p false) &&
  Region.noSelect ops && Region.free .any ops (lst ops.size done) i && (Region.ready .any ops (lst ops.size done)).contains i
section
variable{o:Op}{ty:TypeId}{pos:String}{af:Array Edge}{fuel:Nat}{done:List Nat}
theorem ALI.val (i:Nat) (path:List Nat){d:Nat}{v:Value} (hi:ops[i]?=some ⟨some d,o,ty,pos,af,none⟩) (hq:quietJ ops s path done i=true) (hd:Nat.blt d n=true)
  (hrun:∀w,C w→(execOp (ev f) ⟨some d,o,ty,pos,af,none⟩).run P w=.ok (.value v) w)
  (h:ALI P ops s C Qn Qp n ds fuel (i::done) (upd f d v) w):ALI P ops s C Qn Qp n ds (fuel+1) done f w:=by
 simp only[quietJ,Bool.and_eq_true,Bool.not_eq_true',decide_eq_true_eq,List.all_eq_true] at hq
 obtain⟨⟨⟨⟨⟨⟨⟨q1,q2⟩,q3⟩,q4⟩,q5⟩,q6⟩,q7⟩,q8⟩:=hq
 exact⟨fun a ha=>wpAnyJ_first path hi (Region.noSelect_spec q6) (by simpa using q1) q2 (by simpa using q3) AL.panicKept fuel _ a w q4 (fun p hp=>(q5 p hp).1) (fun p hp=>(q5 p hp).2) (Region.free_spec hi q7) (by simpa using q8)
  (.inl ⟨by simp[Region.wanted],fun w hw=>by rw[ha.eval];exact hrun w hw⟩) (h.out _ (ha.put hd v))⟩
def aliPost (P:Program) (ops:Array Oper) (s:Nat) (C:World→Prop) (Qn:Slots→World→Prop) (Qp:List PanicEntry→World→Prop) (n:Nat) (ds:List Deferred) (fuel:Nat) (done:List Nat):Post
 | .normal,f,ds',w=>ds'=ds∧ALI P ops s C Qn Qp n ds fuel done f w
 | .panic c,f,ds',w=>ds'=ds∧Qp c w
 | _,_,_,_=>False
theorem wpOpIn_of_WLI{i:Nat}{o:Oper} (hi:ops[i]?=some o) (h:WLI P none ops (aliPost P ops s C Qn Qp n ds fuel (i::done)) n [o] f ds w){a:Act} (ha:Rep n f ds a) :
  wpOpIn (Fr none) 0 P ops (anyPost n ds Qn Qp) i (wpAnyJ P .any ops (anyPost n ds Qn Qp) s C fuel ((lst ops.size done).setIfInBounds i true)) a w:=by
 have h1:=h.out a ha
 have e:(lst ops.size done).setIfInBounds i true=lst ops.size (i::done):=rfl
 rw[e]
 have hn:∀a' w',lift n (aliPost P ops s C Qn Qp n ds fuel (i::done)) .normal a' w'→wpAnyJ P .any ops (anyPost n ds Qn Qp) s C fuel (lst ops.size (i::done)) a' w':=by
  rintro a' w' ⟨f',ds',hr,rfl,hA⟩
  exact hA.out a' hr
 have hp:∀c a' w',lift n (aliPost P ops s C Qn Qp n ds fuel (i::done)) (.panic c) a' w'→anyPost n ds Qn Qp (.panic c) a' w':=by
  rintro c a' w' ⟨f',ds',hr,rfl,hA⟩
  exact⟨hr.size,hr.defers,hA⟩
 have ho:∀a' w',¬lift n (aliPost P ops s C Qn Qp n ds fuel (i::done)) .outgrown a' w':=by
  rintro a' w' ⟨f',ds',hr,hA⟩
  exact hA
 unfold wpOpIn
 simp only[hi]
 simp only[wpListIn] at h1
 split
 ·rename_i hw
  rw[if_pos hw] at h1
  unfold Oper.wpIn at h1⊢
  refine⟨h1.1,?_⟩
  have h1:=h1.2
  generalize (o.semAt (Fr none).round a.eval).run P w=r at h1⊢
  cases r with
  | ok x w'=>
   cases x <;> simp only[Oper.uponIn] at h1⊢
   case value=>exact hn _ _ h1
   case skip=>exact hn _ _ h1
   case defer=>exact hn _ _ h1
   case enter=>
    refine⟨h1.1,CallsIn.mono h1.2 fun e w' hR=>?_⟩
    cases e with
    | returned v=>exact hn _ _ hR
    | panicked ch=>exact hp _ _ _ hR
    | outgrown=>obtain⟨a1,w1,h2⟩:=hR;exact absurd h2 (ho _ _)
   case row=>exact⟨h1.1,RowsIn.mono h1.2 fun v w' hR=>hn _ _ hR⟩
   case round=>
    refine⟨h1.1,RoundIn.mono h1.2 fun e w' hR=>?_⟩
    cases e with
    | returned v=>exact hn _ _ hR
    | panicked ch=>exact hp _ _ _ hR
    | outgrown=>obtain⟨a1,w1,h2⟩:=hR;exact absurd h2 (ho _ _)
  | halt x w'=>
   cases x <;> simp only[Oper.uponIn] at h1⊢
   exact hp _ _ _ h1
 ·rename_i hw
  rw[if_neg hw] at h1
  exact⟨h1.1,hn _ _ h1.2⟩
theorem ALI.one (i:Nat){o:Oper} (hr:(Region.ready .any ops (lst ops.size done))=[i]) (hi:ops[i]?=some o) (hC:C w)
  (h:WLI P none ops (aliPost P ops s C Qn Qp n ds fuel (i::done)) n [o] f ds w):ALI P ops s C Qn Qp n ds (fuel+1) done f w:=
 ⟨fun a ha=>⟨fun _=>hC,fun h0=>(by rw[hr] at h0;cases h0),fun k hk=>by
  rw[hr] at hk
  simp at hk
  subst hk
  exact wpOpIn_of_WLI hi h ha⟩⟩
theorem ALI.end (hr:(Region.ready .any ops (lst ops.size done)).isEmpty=true) (hC:C w) (h:Qn f w):ALI P ops s C Qn Qp n ds 0 done f w:=
 ⟨fun a ha=>⟨fun _=>hC,by simpa using hr,f,ha,h⟩⟩
theorem ALI.relax (hu:(lst ops.size done).getD s false=true) (h:ALI P ops 0 (fun _=>True) Qn Qp n ds fuel done f w):ALI P ops s C Qn Qp n ds fuel done f w:=
 ⟨fun a ha=>(h.out a ha).relax hu⟩
theorem WLI.of{Q:Post}{ops:Array Oper}{l:List Oper}{ro:Option Nat} (hp:l.all plainOp=true) (hQ:NoOut Q) (h:WL P ops Q n l f ds w):WLI P ro ops Q n l f ds w:=
 ⟨fun a ha=>wpListIn_of (fun a w ⟨f',ds',_,h⟩=>hQ _ _ _ h) l a w hp (h.out a ha)⟩
theorem aliPost_noOut{done:List Nat}:NoOut (aliPost P ops s C Qn Qp n ds fuel done):=fun _ _ _ h=>h
end
theorem CW.anyY{Q:Post}{id:Nat}{l:List Oper} (s k:Nat) (hm:P.follows .mixedOrders=true) (hk:l.length=k)
  (h:ALI P l.toArray s C (fun f w=>Q .normal f ds w) (fun c w=>∀f,Q (.panic c) f ds w) n ds k [] f w.drew):CW P (.region id l.toArray true) Q n f ds w:=
 ⟨fun a ha=>by
  have hw:(Code.region id l.toArray true).wpIn (Fr none) 0 P (anyPost n ds (fun f w=>Q .normal f ds w) (fun c w=>∀f,Q (.panic c) f ds w)) a w:=by
   refine wpIn_region_any hm ?_
   have h1:=(h.out a ha).any
   have e:l.toArray.size=k:=by simp[hk]
   rw[e] at h1⊢
   exact h1
  refine Code.wp_mono ?_ (wpIn_wide.1 hw)
  intro e a' w' hq
  cases e with
  | normal=>obtain⟨f',hr,hq⟩:=hq;exact⟨f',ds,hr,hq⟩
  | panic c=>obtain⟨h1,h2,hq⟩:=hq;exact⟨fun t=>a'.tmps.getD t undef,ds,⟨h1,fun t=>rfl,h2⟩,hq _⟩
  | exit id=>exact hq.elim
  | goto id=>exact hq.elim
  | ret=>exact hq.elim
  | outgrown=>exact hq.elim⟩
end al
section
variable{P:Program}{ro:Option Nat}{Q:Post}{n:Nat}{f:Slots}{ds:List Deferred}{w:World}
def RecOf2 (t t':Tmp) (assign body:Code) (f:Slots) (n:Nat) (r:Loop):Prop:=r.params=#[t,t']∧r.assign=assign∧r.body=body∧r.tmps.size=n∧∀k,r.tmps.getD k undef=f k
theorem yields_of2{l:Nat}{v v':Value}{t t':Tmp}{as_ bd:Code}{r:Loop}{S:List Nat}{L:OL}{w0:World}{R:Bool→World→Prop} (hr:RecOf2 t t' as_ bd f n r) (hst:r.state=.ready) (ht:Nat.blt t n=true) (ht':Nat.blt t' n=true) (hs:Step S ((l,.loop r)::L) w0 w)
  (h:CWI P (some l) as_ (thenC (fun f1 ds1 w1=>∃S1 L1 w10 r1,Step S1 ((l,.loop r1)::L1) w10 w1∧r1.state=.ready∧∀w2,Step S1 ((l,.loop (Loop.at r1 .busy r1.pending))::L1) w10 w2→CWI P (some l) bd (RQ l R) n f1 ds1 w2) (fun _ _ _ _=>False)) n (upd (upd f t v) t' v') [] w) :
  Yields P l #[v,v'] w R:=by
 obtain⟨h1,h2,h3,h4,h5⟩:=hr
 have hy:=run_yield (P:=P) (args:=#[v,v']) hs.hd (by rw[h1];rfl)
 refine⟨_,_,_,_,hy,?_⟩
 rw[h1,h2,h3]
 have hfold:(#[t,t'].zip #[v,v']).foldl (fun(tmps:Array Value) (x:Tmp×Value)=>match x with | (t,a)=>tmps.setIfInBounds t a) r.tmps=(r.tmps.setIfInBounds t v).setIfInBounds t' v':=by
  rw[←Array.foldl_toList,Array.toList_zip]
  rfl
 rw[hfold]
 have hrep0 : Rep n f [] { tmps := r.tmps, defers := [] } := ⟨h4, h5, rfl⟩
 have hrep:=(hrep0.put ht v).put ht' v'
 have hw:=h.out _ hrep
 refine roundIn_of_wpIn (F:=Fence.wide) trivial (wpIn_mono (F:=Fence.wide.inRound l) hw fun e a w1 ⟨f1,ds1,hr1,hq⟩=>?_)
 cases e with
 | normal=>
  obtain⟨S1,L1,w10,r1,hs1,hr1s,hb⟩:=hq
  refine⟨_,run_beginRound hs1.hd hr1s,?_⟩
  have hbw:=hb _ (hs1.setObj (.loop (Loop.at r1 .busy r1.pending)))
  refine wpIn_mono (F:=Fence.wide.inRound l) (hbw.out a hr1) fun e a2 w2 ⟨f2,ds2,hr2,hq2⟩=>?_
  cases e with
  | normal=>
   obtain⟨S2,L2,w20,r2,hs2,hR⟩:=hq2
   have ob:=rq_end (P:=P) (R:=R) hs2 none
   obtain⟨w',he,hs'⟩:=ob
   exact⟨_,w',he,true,rfl,hR w' hs'⟩
  | ret=>
   obtain⟨S2,L2,w20,r2,hs2,hR⟩:=hq2
   have ob:=rq_end (P:=P) (R:=R) hs2 (some .ret)
   obtain⟨w',he,hs'⟩:=ob
   exact⟨_,w',he,false,rfl,hR w' hs'⟩
  | exit id=>
   obtain⟨S2,L2,w20,r2,hs2,hR⟩:=hq2
   have ob:=rq_end (P:=P) (R:=R) hs2 (some (.exit id))
   obtain⟨w',he,hs'⟩:=ob
   exact⟨_,w',he,false,rfl,hR w' hs'⟩
  | goto id=>exact hq2.elim
  | panic ch=>exact hq2.elim
  | outgrown=>exact hq2.elim
 | exit id=>exact hq.elim
 | goto id=>exact hq.elim
 | ret=>exact hq.elim
 | panic ch=>exact hq.elim
 | outgrown=>exact hq.elim
theorem CW.rangeFunc2{g:Operand}{t t':Tmp}{as_ bd:Code}{F:FuncId}{cap:List Value}{S:List Nat}{L:OL}{w0:World} (hF:En P F) (hg:ev f g=.func (.func F) #[] cap.toArray) (hs:Step S L w0 w)
  (h:∀l b0 r w2,RecOf2 t t' as_ bd f n r→r.state=.ready→r.pending=none→Step S ((l,.loop r)::(b0,.deferred (some []))::L) w0 w2→
   Calls P F (.func (.yield l) #[] #[]::cap).toArray w2 fun e w'=>(∃v,e=.returned v)∧Behind P none l Q n f (markOf b0::ds) w'):CW P (.rangeFunc g #[t,t'] as_ bd) Q n f ds w:=
 ⟨fun a ha=>wpIn_wide.1 (wpIn_rangeFunc (F:=Fence.wide) (n:=0) fun fn _=>by
  have hs1:=hs.alloc (.deferred (some []))
  have hs2:=hs1.alloc (.loop { state:=.ready,pending:=none,fn:=fn,tmps:=a.tmps,params:=#[t,t'],assign:=as_,body:=bd,defers:=w.heap.size })
  have hsz:(w.alloc (.deferred (some []))).heap.size=w.heap.size+1:=by simp
  rw[hsz] at hs2
  have hc:=h (w.heap.size+1) w.heap.size _ _ ⟨rfl,rfl,rfl,ha.size,ha.get⟩ rfl rfl hs2
  have hinv:=invoke_fn (P:=P) (w:=(w.alloc (.deferred (some []))).alloc (.loop { state:=.ready,pending:=none,fn:=fn,tmps:=a.tmps,params:=#[t,t'],assign:=as_,body:=bd,defers:=w.heap.size })) hF cap.toArray #[.func (.yield (w.heap.size+1)) #[] #[]]
  refine⟨_,_,_,{ target:=.fn (.func F) cap.toArray,args:=#[.func (.yield (w.heap.size+1)) #[] #[]] },_,F,_,_,run_enterLoop_outer fn a.tmps #[t,t'] as_ bd,?_,fun f' _=>trivial,hinv,fun h=>by simp[Fence.wide] at h,?_⟩
  ·have hk:∀v,ev f (.const v)=v:=fun _=>rfl
   rw[ha.eval]
   simp[rangeCall,resolve,hg,Deferred.ofValue,hk]
  ·have hh:(#[Value.func (.yield (w.heap.size+1)) #[] #[]]++cap.toArray)=(Value.func (.yield (w.heap.size+1)) #[] #[]::cap).toArray:=by apply Array.ext';simp
   rw[hh]
   exact callsIn_wide.2 (hc.mono fun e w' hR=>rangePost_of (ro:=none) (ds:=markOf w.heap.size::ds) (a':={ tmps:=a.tmps,defers:=[{ target:=.collected w.heap.size,args:=#[] }]++a.defers }) ⟨ha.size,ha.get,by simp[ha.defers,markOf]⟩ hR))⟩
end
section
variable{P:Program}{ops:Array Oper}
theorem wpOpsIn_of{ro:Option Nat}{Q:Exit→Act→World→Prop} (hQ:∀a w,¬Q .outgrown a w) (hp:ops.toList.all plainOp=true):∀(l:List Nat) (a:Act) (w:World),wpOps P ops Q l a w→wpOpsIn (Fr ro) 0 P ops Q l a w
 | [],a,w,h=>h
 | i::l,a,w,h=>by
  have ih:=fun a w=>wpOpsIn_of (ro:=ro) hQ hp l a w
  simp only[wpOps] at h
  simp only[wpOpsIn]
  cases ho:ops[i]? with
  | none=>rw[ho] at h;exact ih _ _ h
  | some o=>
   rw[ho] at h
   simp only at h⊢
   have hpo:plainOp o=true:=by
    have hm:o∈ops.toList:=by
     have ob:=Array.getElem?_eq_some_iff.1 ho
     obtain⟨hlt,rfl⟩:=ob
     simp
    exact List.all_eq_true.1 hp o hm
   split
   ·rename_i hw
    rw[if_pos hw] at h
    rcases h with h | ⟨_,a0,w0,h0⟩
    ·refine⟨fun f _=>trivial,?_⟩
     rw[semAt_fr (ro:=(Fr ro).round) hpo]
     unfold Oper.wp at h
     generalize (execOp a.eval o).run P w=r at h⊢
     cases r with
     | ok x w'=>
      cases x <;> simp only[Oper.upon] at h <;> simp only[Oper.uponIn]
      case value=>exact ih _ _ h
      case skip=>exact ih _ _ h
      case defer=>exact ih _ _ h
      case enter=>
       refine⟨fun h=>by simp[Fr,Fence.wide] at h,fr_calls (h.mono fun e w' hR=>?_)⟩
       cases e with
       | returned v=>exact ih _ _ hR
       | panicked ch=>exact hR
       | outgrown=>exact hR
      case row=>
       refine⟨fun h=>by simp[Fr,Fence.wide] at h,?_⟩
       intro c cs _
       have ob:=h c cs
       obtain⟨v,w',hv,hs⟩:=ob
       exact⟨v,w',ih _ _ hv,stepsIn_wide.2 hs⟩
     | halt x w'=>
      cases x <;> simp only[Oper.upon] at h <;> simp only[Oper.uponIn]
      exact h
    ·exact absurd h0 (hQ _ _)
   ·rename_i hw
    rw[if_neg hw] at h
    exact⟨fun f _=>trivial,ih _ _ h⟩
theorem wpIn_region_of{ro:Option Nat}{Q:Exit→Act→World→Prop}{id:Nat}{a:Act}{w:World} (hm:P.follows .mixedOrders=true) (hQ:∀a w,¬Q .outgrown a w) (hp:ops.toList.all plainOp=true)
  (h:wpAny P .any ops Q ops.size (Array.replicate ops.size false) a { w with drawn:=w.drawn+1 }):(Code.region id ops true).wpIn (Fr ro) 0 P Q a w:=
 wpIn_region_draw fun t=>wpOpsIn_of hQ hp _ _ _ (by
  simp only[Region.schedule,hm,Bool.true_or,if_true]
  exact wpAny_sound ops.size t _ a _ h)
end
section
variable{P:Program}{ro:Option Nat}{n:Nat}{f:Slots}{ds:List Deferred}{w w0:World}{S:List Nat}{L:OL}{A C:World→Prop}
theorem CWI.quiet{Q:Post}{id:Nat}{l:List Oper} (hp:l.all plainOp=true) (hQ:NoOut Q) (hm:P.follows .mixedOrders=true) (hB:Region.lexB .any l.toArray=true) (hs:Step S L w0 w)
  (h:QL P l.toArray S L w0 (fun f'=>∀w',Step S L w0 w'→Q .normal f' ds w') n l f ds):CWI P ro (.region id l.toArray true) Q n f ds w:=
 ⟨fun a ha=>by
  have hmono:∀(l':List Oper) (a:Act),wpQuiet P l.toArray (fun w=>Step S L w0 w) (fun a'=>∃f',Rep n f' ds a'∧∀w',Step S L w0 w'→Q .normal f' ds w') l' a→wpQuiet P l.toArray (fun w=>Step S L w0 w) (fun a'=>∀w',Step S L w0 w'→lift n Q .normal a' w') l' a:=by
   intro l'
   induction l' with
   | nil=>exact fun a ⟨f',hr,hq⟩ w' hw'=>⟨f',ds,hr,hq w' hw'⟩
   | cons o l' ih=>
    intro a hh
    simp only[wpQuiet] at hh⊢
    split
    ·rename_i hw;rw[if_pos hw] at hh;exact Oper.quiet_mono ih hh
    ·rename_i hw;rw[if_neg hw] at hh;exact ih _ hh
  have hh:=hmono _ _ (h.out a ha)
  simp only[Region.lexB,Bool.and_eq_true] at hB
  refine wpIn_region_of (Q:=lift n Q) hm (fun a w ⟨f',ds',_,h⟩=>hQ _ _ _ h) (by simpa using hp) (wpAny_of_quiet (C:=fun w=>Step S L w0 w) (Q:=fun a'=>∀w',Step S L w0 w'→lift n Q .normal a' w') (fun _ w' hw' h=>h w' hw') _ _ _ _ hs.drew ?_)
  have:=wpAnyQ_lex (C:=fun w=>Step S L w0 w) (md:=.any) hB.1 l 0 (Array.replicate l.toArray.size false) a (by simp) (by simpa using hB.2) hh
  simpa using this⟩
end
end Go.Gx
namespace Go.Gx
open Go.Proofs List
structure SeqOk (W:World) (b3:Nat) (lv:Value) (R:List Row) (X:List ((List UInt8)×(List UInt8))):Prop where
 cell:W.cell? ⟨b3,0,none⟩=some lv
 rows:Sl W 33 lv R.length (rowsR R)
 len:X.length=R.length
 small:R.length≤1099511627776
 dat:∀(i:Nat) (r:Row) (d x:(List UInt8)),R[i]?=some r→X[i]?=some (d,x)→r.d=d∧x.length<1099511627776∧Sl W 1 r.v x.length (u8s x)
theorem row_fst (r:Row):r.enc.take 32=u8s r.d:=by rw[Row.enc,take_append_of_le_length (by simp[u8s,r.hd]),take_of_length_le (by simp[u8s,r.hd])]
theorem row_snd (r:Row):r.enc[32]?=some r.v:=by
 have h:(u8s r.d).length=32:=by simp[u8s,r.hd]
 rw[Row.enc,getElem?_append_right (by omega),h]
 rfl
theorem At.row{W:World}{b off:Nat}{R:List Row} (h:At W b off (rowsR R)){i:Nat}{r:Row} (hr:R[i]?=some r):At W b (off+i*33) r.enc:=by
 have ob:=List.getElem?_eq_some_iff.1 hr
 obtain⟨hlt,rfl⟩:=ob
 intro j v hj
 have hj33:j<33:=by
  have:=(List.getElem?_eq_some_iff.1 hj).1
  rw[Row.enc_len] at this;exact this
 have h1:=rowsR_at R i j hlt hj33
 rw[Nat.add_assoc]
 exact h _ _ (h1.trans hj)
set_option maxHeartbeats 2000000 in
theorem all2_iter{b3 l:Nat}{lv:Value}{R:List Row}{X:List (List UInt8×List UInt8)} (W0:World)
  {J:Nat→OL→World→Prop}{Jx:World→Prop} (hJ:∀k L W W',J k L W→Step [] [] W W'→J k L W')
  (hRd:∀k L W,J k L W→SeqOk W b3 lv R X)
  {L0:OL} (h0:J 0 L0 W0)
  (hY:∀k d x L W W1 v' Lv,X[k]?=some (d,x)→J k L W→Step [] Lv W W1→OwnSl 5 1 v' x.length (u8s x) Lv→Yields Tryz.prog l #[.agg (u8s d).toArray,v'] W1 fun go W'=>if go=true then ∃L',Step ((Lv++L).map (·.1)) L' W1 W'∧J (k+1) L' W' else Jx W') :
  CP 82 #[.func (.yield l) #[] #[],pt b3] W0 fun e W'=>(∃v,e=.returned v)∧((∃L,J X.length L W')∨Jx W'):=by
 have hs:Step [] [] W0 W0:=Step.refl W0
 have hS0:=hRd _ _ _ h0
 have hlen:=hS0.len
 have hsmall:=hS0.small
 have ob:=Sl.form hS0.rows
 obtain⟨av,cv,rfl⟩:=ob
 refine calls (n:=20) Tryz.func82 rfl rfl rfl ?_
 refine sr<|wl ty156 rfl (hS0.cell)<|wL u156 rfl<|wm<|wZ ?_
 have h1:=hJ _ _ _ _ h0 hs
 refine cB<|CW.loop (fun m f w'=>∃k L,k≤R.length∧m=R.length - k∧J k L w'∧Holds f [(0,.func (.yield l) #[] #[]),(5,.slice av R.length cv),(6,.int .i64 (R.length:Nat)),(7,.int .i64 (k:Nat))]) (m:=R.length) ?_ ?_
 ·exact⟨0,L0,Nat.zero_le _,rfl,h1,rfl,rfl,rfl,rfl,trivial⟩
 ·rintro m f w' ⟨k,L,hk,rfl,hJk,hf⟩
  have ob:=hf.chain
  obtain⟨g,rfl⟩:=ob
  by_cases hlt:k<R.length
  ·have hSk:=hRd _ _ _ hJk
   have ob:∃r,R[k]?=some r:=⟨_,getElem?_eq_getElem hlt⟩
   obtain⟨r,hr⟩:=ob
   obtain⟨⟨d,x⟩,hx⟩:∃p,X[k]?=some p:=⟨_,getElem?_eq_getElem (by omega)⟩
   have ob:=hSk.dat k r d x hr hx
   obtain⟨hrd,hxs,hxv⟩:=ob
   subst hrd
   have ob:=hSk.rows
   obtain⟨hl,⟨a0,c,hc,h00⟩ | ⟨b,off,c,hc,hat⟩⟩:=ob
   ·omega
   have ob:=Value.slice.inj hc
   obtain⟨rfl,-,rfl⟩:=ob
   have hat':=hat.row hr
   have hel:=r.enc_len
   have hdl:(u8s r.d).length=32:=by rw[u8s,length_map,r.hd]
   have hs:Step [] [] w' w':=Step.refl w'
   refine sr<|lT<|wZ<|cq<|cT rfl<|ck<|cq<|cB<|sr<|wI u156 ty160 rfl rfl<|wR ty160 rfl hel (by have h:=hat'.step hs (by simp);exact h)<|WL.alloc ty160 rfl hs (fun b4 w hs=>?_)
   refine WL.storeAll ty160 rfl rfl ((hel)) (r.enc1) hs (by rfl) (fun w hs=>?_)
   refine wZ<|cq ?_
   replace hs:Step [] [(b4,blk 160 r.enc)] w' w:=hs
   refine CW.anyY (C:=fun w=>Step [] [(b4,blk 160 r.enc)] w' w) 6 8 mixedP rfl ?_
   replace hs:=hs.drew
   refine ALI.val 0 [6] rfl (by kernel_rfl) rfl (fun w hs=>run_move) ?_
   refine ALI.val 1 [2,6] rfl (by kernel_rfl) rfl (fun w hs=>run_field (o':=0) u160 rfl ty44 rfl rfl rfl) ?_
   refine ALI.val 2 [6] rfl (by kernel_rfl) rfl (fun w hs=>run_loadN ty44 rfl hdl (by have h:=(hs.a0).take 32;rw[row_fst] at h;exact h)) ?_
   refine ALI.val 3 [4,5,6] rfl (by kernel_rfl) rfl (fun w hs=>run_field (o':=32) u160 rfl ty76 rfl rfl rfl) ?_
   refine ALI.val 4 [5,6] rfl (by kernel_rfl) rfl (fun w hs=>run_load1 ty76 rfl (hs.c0 (row_snd r))) ?_
   refine ALI.one 5 (by kernel_rfl) rfl hs (WLI.of rfl aliPost_noOut ?_)
   have ob:=Sl.form hxv
   obtain⟨ra,rc,hrv⟩:=ob
   refine wE rfl (run_call en83 rfl rfl) (clone_spec _ (hxv.step hs.clear (by simp[Outside];split <;> simp)) (by omega)) ?_
   rintro e w2 ⟨v',Lv,rfl,hu',hq⟩
   refine⟨_,rfl,?_⟩
   replace hs:=Step.call0 hs hq
   refine WL.nil ⟨rfl,?_⟩
   refine ALI.one 6 (by kernel_rfl) rfl (hs.dropL (L1:=Lv)) ?_
   refine WLI.yield rfl rfl rfl (hY k r.d x L w' _ v' Lv hx hJk (hs.dropR (L1:=Lv)) hu') ?_
   intro go w3 hgo
   refine WLI.nil ⟨rfl,?_⟩
   refine ALI.relax (by kernel_rfl) (ALI.one 7 (by kernel_rfl) rfl trivial (WLI.of rfl aliPost_noOut (WL.val rfl (run_not rfl) (WL.nil ⟨rfl,ALI.end (by kernel_rfl) trivial ?_⟩))))
   cases go with
   | true=>
    rw[if_pos rfl] at hgo
    obtain⟨L',hst,hJ'⟩:=hgo
    refine cF rfl<|ck<|cr<|wP ((k+1:Nat):Int)<|wm<|wZ<|(show _∧_ from⟨rfl,_,?_,k+1,L',by omega,rfl,hJ',rfl,rfl,rfl,rfl,trivial⟩)
    omega
   | false=>
    rw[if_neg (by simp)] at hgo
    refine cT rfl<|CW.ret ?_
    exact fin_ret0 rfl ⟨⟨_,rfl⟩,.inr hgo⟩
  ·obtain rfl:k=R.length:=by omega
   refine sr<|lF<|wZ<|cq<|cF rfl<|CW.exit ?_
   exact fin_end0 rfl ⟨⟨_,rfl⟩,.inl ⟨_,by rw[hlen];exact hJk⟩⟩
theorem run_funcNil{P:Program}{f:Slots}{w:World}{d:Option Tmp}{ty:TypeId}{pos:String}{af:Array Edge}{x y:Operand}{T T':TypeId}{F:Fn}{a b:Array Value}{A B:Array TypeId}{va:Bool} (hT:P.underlying T=some (.func A B va)) (hx:ev f x=.func F a b) (hy:ev f y=.nilFunc) :
  (execOp (ev f) ⟨d,.binOp .eql T x y T',ty,pos,af,none⟩).run P w=.ok (.value (.bool false)) w:=by
 have h0:∀d,(Op.equalIn (d+1) T (.func F a b) .nilFunc).run P w=.ok false w:=fun d=>by simp[Op.equalIn,run_underlying hT]
 have h:(Op.equal T (.func F a b) .nilFunc).run P w=.ok false w:=h0 9999
 simp[execOp,hx,hy,eqGuard,binOp,h]
section
variable{P:Program}{f:Slots}{w:World}{d:Option Tmp}{ty:TypeId}{pos:String}{af:Array Edge}{x y:Operand}{T T' E:TypeId}{a:Addr}
theorem run_ptrNil (hT:P.underlying T=some (.pointer E)) (hx:ev f x=.pointer (some a)) (hy:ev f y=.pointer none):(execOp (ev f) ⟨d,.binOp .eql T x y T',ty,pos,af,none⟩).run P w=.ok (.value (.bool false)) w:=by
 have h0:∀d,(Op.equalIn (d+1) T (.pointer (some a)) (.pointer none)).run P w=.ok false w:=fun d=>by simp[Op.equalIn,run_underlying hT,sameAddr]
 have h:(Op.equal T (.pointer (some a)) (.pointer none)).run P w=.ok false w:=h0 9999
 simp[execOp,hx,hy,eqGuard,binOp,h]
theorem run_nilNil (hT:P.underlying T=some (.pointer E)) (hx:ev f x=.pointer none) (hy:ev f y=.pointer none):(execOp (ev f) ⟨d,.binOp .eql T x y T',ty,pos,af,none⟩).run P w=.ok (.value (.bool true)) w:=by
 have h0:∀d,(Op.equalIn (d+1) T (.pointer none) (.pointer none)).run P w=.ok true w:=fun d=>by simp[Op.equalIn,run_underlying hT,sameAddr]
 have h:(Op.equal T (.pointer none) (.pointer none)).run P w=.ok true w:=h0 9999
 simp[execOp,hx,hy,eqGuard,binOp,h]
end
def roundZ (a:Int) (n:Nat):Nat:=(a % (n:Int)).toNat
theorem roundZ_lt{a:Int}{n:Nat} (h:0<n):roundZ a n<n:=by
 have h1:=Int.emod_nonneg a (show(n:Int)≠0 by omega)
 have h2:=Int.emod_lt_of_pos a (show(0:Int)<n by omega)
 unfold roundZ
 omega
end Go.Gx
namespace Go.Gx
open Go.Proofs List
attribute [local irreducible] shaL cutD frontL
theorem View.mem{D:OL}{M:List MEnt}{X:List Blb} (h:View D M X){p:MEnt} (hp:p∈M):∃b∈X,EntB D p b:=by
 induction h with
 | nil=>cases hp
 | cons h _ ih=>
  rcases mem_cons.1 hp with rfl | hp
  ·exact⟨_,by simp,h⟩
  ·have ob:=ih hp
   obtain⟨b,hb,he⟩:=ob
   exact⟨b,by simp[hb],he⟩
theorem Step.callAll0{S:List Nat}{L:OL}{w0 w w':World} (h:Step S [] w0 w) (hc:Step [] L w w'):Step S L w0 w':=by
 have:=Step.call0 h hc
 rwa [append_nil] at this
section
variable{bs:Nat}{s:AS}{D L:OL}{w0:World}
theorem all_abs (hR:PRep bs s D L) (ok:s.Ok) (hw:Lives (L++D) w0):CP 31 #[pt bs] w0 fun e w'=>∃b3 lv Lv R,e=.returned (.func (.func 82) #[] #[pt b3])∧
  OwnSl 160 33 lv R.length (rowsR R) Lv∧R.length=s.X.length∧(∀(i:Nat) (r:Row) (b:Blb),(R:List Row)[i]?=some r→s.X[i]?=some b→r.d=b.d∧Held D r.v b.x)∧Step [] ((b3,blk 156 [lv])::Lv) w0 w':=by
 have ob:=hR.open ok hw
 obtain⟨m,clock,M,X',o⟩:=ob
 have hlenM:M.length=s.X.length:=by rw[o.view.length,o.perm.length_eq]
 have hul:=used_len s.X
 have hou:=ok.used
 refine(all_spec w0 o.hb o.hm o.keys o.born o.view.blobV (by omega)).mono fun e w' ⟨b3,lv,Lv,R,h1,h2,h3,h4,h5⟩=>?_
 have hRl:R.length=s.X.length:=by have:=h2.length_eq;simp only[length_map] at this;omega
 have hd:R.map (fun r=>r.d)=s.X.map (fun b=>b.d):=by
  have hp1:(R.map (fun r=>r.d)).Perm (s.X.map (fun b=>b.d)):=by
   have e1:R.map (fun r=>r.d)=(R.map (fun r=>(r.d,r.v))).map Prod.fst:=by simp[map_map,Function.comp_def]
   have e2:M.map (fun p=>p.1)=(M.map (fun p=>(p.1,datV p.2.1))).map Prod.fst:=by simp[map_map,Function.comp_def]
   rw[e1]
   refine(h2.map Prod.fst).trans ?_
   rw[←e2,o.view.fst]
   exact o.perm.map _
  refine hp1.eq_of_pairwise (le:=fun a b=>ltD b a=false) (fun a b _ _ h1 h2=>ltD_tri _ _ h2 h1) ?_ ?_
  ·rw[pairwise_map];exact h3
  ·rw[pairwise_map];exact ok.sorted.imp fun h=>ltD_asymm h
 refine⟨b3,lv,Lv,R,h1,h4,hRl,fun i r b hr hb=>?_,h5⟩
 have hdi:r.d=b.d:=by
  have h6:(R.map (fun r=>r.d))[i]?=some r.d:=by rw[getElem?_map,hr];rfl
  rw[hd,getElem?_map,hb] at h6
  exact(Option.some.inj h6).symm
 refine⟨hdi,?_⟩
 have h7:(r.d,r.v)∈M.map (fun p=>(p.1,datV p.2.1)):=h2.mem_iff.1 (mem_map.2 ⟨r,mem_of_getElem? hr,rfl⟩)
 have ob:=mem_map.1 h7
 obtain⟨p,hp,hpe⟩:=ob
 rw[Prod.mk.injEq] at hpe
 have ob:=o.view.mem hp
 obtain⟨b',hb',hE⟩:=ob
 obtain⟨hE1,v,hE2,hE3⟩:=hE
 have hbb:b'=b:=by
  have h8:=findX_mem ok.sorted.nodup (o.perm.mem_iff.1 hb')
  have h9:=findX_mem ok.sorted.nodup (mem_of_getElem? hb)
  rw[show b'.d=b.d by rw[←hE1,hpe.1,hdi]] at h8
  rw[h8] at h9
  exact Option.some.inj h9
 subst hbb
 have:datV p.2.1=v:=by rw[hE2];rfl
 rw[←hpe.2,this]
 exact hE3
end
theorem lay_k {s s':AS}{d x:U8} (h:s.lay d x=some s'):s'.k=s.k:=by
 unfold AS.lay at h
 split at h
 ·obtain rfl:=(Option.some.inj h).symm;rfl
 ·cases h
theorem put_k (s:AS) (y:U8):(s.put y).2.2.k=s.k:=by
 have hgo:∀r:List UInt8×Nat×AS,r=(match ({ s with puts:=s.puts+1 }:AS).lay (frontL y s.k) y with | some s2=>(frontL y s.k,0,s2) | none=>(zD,43,{ s with puts:=s.puts+1 }))→r.2.2.k=s.k:=by
  intro r hr
  cases hl:({ s with puts:=s.puts+1 }:AS).lay (frontL y s.k) y with
  | none=>rw[hl] at hr;rw[hr]
  | some s2=>rw[hl] at hr;subst hr;exact(lay_k hl).trans rfl
 unfold AS.put
 simp only
 split
 ·rfl
 ·split
  ·split
   ·rfl
   ·split
    ·rfl
    ·exact hgo _ rfl
  ·exact hgo _ rfl
section
variable{S:List Nat}{A L L' D D' Lv:OL}{w0 w w':World}
theorem Own.live (hs:Step S (A++(L++D)) w0 w):Lives (L++D) w:=Lives.of (L2:=[]) (by rw[append_nil];exact hs.dropL)
theorem Own.put (hs:Step S (A++(L++D)) w0 w) (hq:Step (L.map (·.1)) (L'++D') w w'):Step S (A++(L'++(D'++D))) w0 w':=by
 have h1:Step S (L++(D++A)) w0 w:=by
  have:=hs.append_comm
  rwa [append_assoc] at this
 have h2:=Step.call (L1:=L) h1 hq
 have h3:Step S ((L'++(D'++D))++A) w0 w':=by
  have e:L'++D'++(D++A)=(L'++(D'++D))++A:=by simp[append_assoc]
  rwa [e] at h2
 exact h3.append_comm
theorem Own.set (hs:Step S (A++(L++D)) w0 w) (hq:Step (L.map (·.1)) L' w w'):Step S (A++(L'++D)) w0 w':=by
 have:=Own.put (D':=[]) hs (by rw[append_nil];exact hq)
 simpa using this
theorem Own.outside (hs:Step S (A++(L++D)) w0 w){v:Value}{x:U8} (h:Held D v x):Outside v (L.map (·.1)):=by
 refine h.out fun p hp hm=>?_
 have hn:=Step.nodup hs.dropL
 rw[map_append,nodup_append] at hn
 exact hn.2.2 _ hm _ (mem_map_of_mem hp) rfl
end
theorem findX_ins{b:Blb}{X:List Blb} (h:SortedX X):findX b.d (insX b X)=some b:=by
 have h1:=insX_sorted b h
 exact findX_mem h1.nodup ((insX_perm b h).mem_iff.2 (by simp))
theorem AS.put_get{s:AS} (ok:s.Ok){y:U8} (h:(s.put y).2.1=0):(s.put y).1=frontL y s.k∧(s.put y).2.2.get (frontL y s.k)=(y,0):=by
 have hgo:∀r:List UInt8×Nat×AS,r=(match ({ s with puts:=s.puts+1 }:AS).lay (frontL y s.k) y with | some s2=>(frontL y s.k,0,s2) | none=>(zD,43,{ s with puts:=s.puts+1 }))→r.2.1=0→r.1=frontL y s.k∧r.2.2.get (frontL y s.k)=(y,0):=by
  intro r hr h0
  cases hl:({ s with puts:=s.puts+1 }:AS).lay (frontL y s.k) y with
  | none=>rw[hl] at hr;rw[hr] at h0;cases h0
  | some s2=>
   rw[hl] at hr
   subst hr
   refine⟨rfl,?_⟩
   unfold AS.lay at hl
   split at hl
   ·obtain rfl:=(Option.some.inj hl).symm
    have hf:=findX_ins (b:=⟨frontL y s.k,y,s.last+1⟩) ok.sorted
    unfold AS.get
    simp only at hf⊢
    rw[hf]
    simp
   ·cases hl
 unfold AS.put at h⊢
 simp only at h⊢
 by_cases hlong:1048576<y.length
 ·rw[if_pos hlong] at h;cases h
 ·rw[if_neg hlong] at h⊢
  cases hf:findX (frontL y s.k) s.X with
  | none=>rw[hf] at h;exact hgo _ rfl h
  | some b=>
   rw[hf] at h
   simp only at h⊢
   by_cases hxy:b.x=y
   ·rw[if_pos hxy] at h⊢
    refine⟨rfl,?_⟩
    unfold AS.get
    simp only[hf,hxy,if_true]
   ·rw[if_neg hxy] at h⊢
    by_cases hcl:frontL b.x s.k=frontL y s.k
    ·rw[if_pos hcl] at h;cases h
    ·rw[if_neg hcl] at h⊢
     exact hgo _ rfl h
theorem Lives.after{L:OL}{w w':World} (h:Lives L w) (hs:Step [] [] w w'):Lives L w':=Step.own0 (h.step0 hs)
section
variable{bs:Nat}{s:AS}{D L:OL}{w0:World}
theorem seqOk_of (ok:s.Ok) (hw:Lives (L++D) w0){b3:Nat}{lv:Value}{Lv Y:OL}{R:List Row} (ha1:OwnSl 160 33 lv R.length (rowsR R) Lv) (ha2:R.length=s.X.length)
  (ha3:∀(i:Nat) (r:Row) (b:Blb),(R:List Row)[i]?=some r→s.X[i]?=some b→r.d=b.d∧Held D r.v b.x){W:World} (hs:Step [] (Y++((b3,blk 156 [lv])::Lv)) w0 W):SeqOk W b3 lv R (s.X.map fun b=>(b.d,b.x)):=by
 have hl:(s.X.map fun b=>(b.d,b.x)).length=R.length:=by rw[length_map,ha2]
 have hul:=used_len s.X
 have hou:=ok.used
 refine⟨?_,?_,hl,by omega,?_⟩
 ·have h:=hs.has (b3,blk 156 [lv]) (by simp)
  rw[cell_blk h]
  rfl
 ·exact ha1.sl (L:=[]) (by rw[append_nil];exact(Step.dropL hs).tail)
 ·intro i r d x hr hx
  rw[getElem?_map] at hx
  cases hb:s.X[i]? with
  | none=>rw[hb] at hx;cases hx
  | some b=>
   rw[hb] at hx
   have ob:=ha3 i r b hr hb
   obtain⟨h1,h2⟩:=ob
   simp only[Option.map_some,Option.some.injEq,Prod.mk.injEq] at hx
   obtain⟨rfl,rfl⟩:=hx
   have hm:=used_mem (mem_of_getElem? hb)
   exact⟨h1,by omega,h2.sl fun p hp=>(hw.step0 hs.clear).has p (by simp[hp])⟩
end
end Go.Gx
namespace Go.Gx
open Go.Proofs List
structure Std where
 d:(List UInt8)
 dir:Bool
 dep:Nat
 p:(List UInt8)
structure Rm where
 n:Int
 d:Int
 b:Int
structure WI where
 p:(List UInt8)
 dir:Bool
 x:(List UInt8)
structure WS where
 n:Nat
 b:Nat
 g:Nat
 m:List ((List UInt8)×Bool)
 l:List WI
def joinP (p n:(List UInt8)):(List UInt8):=if p=[] then n else p++(47::n)
def kidOf (x:Std) (e:Ent):Std:=⟨e.dig,decide (e.kind=2),x.dep+1,joinP x.p e.name⟩
def kids (x:Std) (y:(List UInt8)):List Std:=(decL y).map (kidOf x)
def push (x:Std) (t:WS):WS:=if x.dir=true∧x.dep≠0 then { t with l:=t.l++[⟨x.p,true,[]⟩] } else t
def WS.node (t:WS):WS:={ t with n:=t.n+1 }
def WS.meet (t:WS) (x:Std):WS:={ t with g:=t.g+1,m:=t.m++[(x.d,x.dir)] }
def WS.byte (t:WS) (k:Nat):WS:={ t with b:=t.b+k }
def WS.item (t:WS) (i:WI):WS:={ t with l:=t.l++[i] }
def visit (s:AS) (rm:Rm) (x:Std) (t:WS):Int×List Std×WS:=
 if rm.d<x.dep then (33,[],t) else
 if rm.n<(t.n:Int)+1 then (62,[],t.node) else
 if (s.get x.d).2≠0 then ((s.get x.d).2,[],t.node.meet x) else
 if x.dir=true then
  if decE (s.get x.d).1≠0 then (decE (s.get x.d).1,[],t.node.meet x) else (0,kids x (s.get x.d).1,t.node.meet x)
 else if rm.b<(t.b:Int)+(s.get x.d).1.length then (63,[],(t.node.meet x).byte (s.get x.d).1.length)
 else (0,[],((t.node.meet x).byte (s.get x.d).1.length).item ⟨x.p,false,(s.get x.d).1⟩)
def seqS (f:Std→WS→Int×WS):List Std→WS→Int×WS
 | [],t=>(0,t)
 | x::l,t=>if (f x t).1≠0 then f x t else seqS f l (f x t).2
def standP (s:AS) (rm:Rm):Nat→Std→WS→Int×WS
 | 0,x,t=>(33,t)
 | n+1,x,t=>if (visit s rm x t).1≠0 then ((visit s rm x t).1,(visit s rm x t).2.2) else seqS (fun y u=>standP s rm n y (push y u)) (visit s rm x t).2.1 (visit s rm x t).2.2
def stand (s:AS) (rm:Rm) (n:Nat) (x:Std) (t:WS):Int×WS:=standP s rm n x (push x t)
def runs (s:AS) (rm:Rm):List Std→WS→Int×WS:=seqS fun x t=>stand s rm (34 - x.dep) x t
theorem seqS_append (f:Std→WS→Int×WS):∀(a b:List Std) (t:WS),seqS f (a++b) t=if (seqS f a t).1≠0 then seqS f a t else seqS f b (seqS f a t).2
 | [],b,t=>by simp[seqS]
 | x::a,b,t=>by
  rw[cons_append,seqS,seqS,seqS_append f a b]
  by_cases h:(f x t).1≠0
  ·simp only[if_pos h]
  ·simp only[if_neg h]
theorem seqS_congr{f g:Std→WS→Int×WS}:∀{l:List Std}{t:WS},(∀x∈l,∀t,f x t=g x t)→seqS f l t=seqS g l t
 | [],_,_=>rfl
 | x::l,t,h=>by
  rw[seqS,seqS,h x (by simp) t]
  split
  ·rfl
  ·exact seqS_congr fun y hy=>h y (by simp[hy])
theorem visit_kids{s:AS}{rm:Rm}{x:Std}{t:WS}{y:Std} (h:y∈(visit s rm x t).2.1):y.dep=x.dep+1∧x.dir=true:=by
 unfold visit at h
 split at h
 ·cases h
 split at h
 ·cases h
 split at h
 ·cases h
 split at h
 ·rename_i hd
  split at h
  ·cases h
  ·have ob:=mem_map.1 h
   obtain⟨e,_,rfl⟩:=ob
   exact⟨rfl,hd⟩
 ·split at h <;> cases h
theorem stand_succ (s:AS){rm:Rm} (n:Nat) (x:Std) (t:WS):stand s rm (n+1) x t=if (visit s rm x (push x t)).1≠0 then ((visit s rm x (push x t)).1,(visit s rm x (push x t)).2.2) else seqS (fun y u=>standP s rm n y (push y u)) (visit s rm x (push x t)).2.1 (visit s rm x (push x t)).2.2:=rfl
theorem visit_deep{s:AS}{rm:Rm}{x:Std}{t:WS} (h:rm.d<x.dep):visit s rm x t=(33,[],t):=if_pos h
theorem runs_cons (s:AS){rm:Rm} (hrm:rm.d≤32) (x:Std) (l:List Std) (t:WS) :
  runs s rm (x::l) t=if (visit s rm x (push x t)).1≠0 then ((visit s rm x (push x t)).1,(visit s rm x (push x t)).2.2) else runs s rm ((visit s rm x (push x t)).2.1++l) (visit s rm x (push x t)).2.2:=by
 unfold runs
 rw[seqS]
 by_cases hx:x.dep≤33
 ·have ob:∃n,34 - x.dep=n+1:=⟨33 - x.dep,by omega⟩
  obtain⟨n,hn⟩:=ob
  rw[hn,stand_succ]
  by_cases he:(visit s rm x (push x t)).1≠0
  ·rw[if_pos he,if_pos he,if_pos he]
  ·rw[if_neg he,if_neg he,seqS_append]
   have hc:seqS (fun y u=>standP s rm n y (push y u)) (visit s rm x (push x t)).2.1 (visit s rm x (push x t)).2.2=seqS (fun x t=>stand s rm (34 - x.dep) x t) (visit s rm x (push x t)).2.1 (visit s rm x (push x t)).2.2:=seqS_congr fun y hy t=>by
    have:=(visit_kids hy).1
    rw[show 34 - y.dep=n by omega]
    rfl
   rw[hc]
 ·have h0:34 - x.dep=0:=by omega
  have hv:visit s rm x (push x t)=(33,[],push x t):=visit_deep (by omega)
  rw[h0,hv]
  simp[stand,standP]
def rootS (d:(List UInt8)):Std:=⟨d,true,0,[]⟩
def ws0:WS:=⟨0,0,0,[],[]⟩
theorem push_root (d:U8) (t:WS):push (rootS d) t=t:=if_neg (by simp[rootS])
theorem runs_root (s:AS){rm:Rm} (d:U8) (t:WS):runs s rm [rootS d] t=standP s rm 34 (rootS d) t:=by
 have e:runs s rm [rootS d] t=if (stand s rm 34 (rootS d) t).1≠0 then stand s rm 34 (rootS d) t else (0,(stand s rm 34 (rootS d) t).2):=rfl
 rw[e,stand,push_root]
 by_cases h:(standP s rm 34 (rootS d) t).1≠0
 ·rw[if_pos h]
 ·rw[if_neg h]
  have h:(standP s rm 34 (rootS d) t).1=0:=by simpa using h
  exact Prod.ext h.symm rfl
def minZ (a b:Int):Int:=if a<b then a else b
def rmOf (n d b:Int):Rm:=⟨minZ n 65536,minZ d 32,minZ b 67108864⟩
theorem entP_name{bs a:U8}{p q:Nat}{x:Ent} (h:entP a bs p=.ok (x,q)):isName x.name=true:=by
 unfold entP at h
 split at h
 ·cases h
 ·split at h
  ·split at h
   ·cases h
   ·split at h
    ·rename_i hw
     split at h
     ·cases h
     ·split at h
      ·cases h
      ·injection h with h;injection h with hx hq
       subst hx
       unfold wrongE at hw
       split at hw
       ·rename_i hc;exact hc.2.1
       ·cases hw
    ·cases h
  ·cases h
theorem entsP_name{bs:U8}:∀{n:Nat}{a:U8}{p q:Nat}{l:List Ent},entsP bs n a p=.ok (l,q)→∀x∈l,isName x.name=true
 | 0,a,p,q,l,h=>by
  unfold entsP at h
  injection h with h;injection h with h1 h2
  subst h1;intro x hx;cases hx
 | n+1,a,p,q,l,h=>by
  unfold entsP at h
  split at h
  ·cases h
  ·rename_i x q' h1
   split at h
   ·cases h
   ·rename_i l' r h2
    injection h with h;injection h with h3 h4
    subst h3
    intro y hy
    rcases mem_cons.1 hy with rfl | hy
    ·exact entP_name h1
    ·exact entsP_name h2 y hy
theorem decL_name{y:U8}:∀x∈decL y,isName x.name=true:=by
 intro x hx
 unfold decL at hx
 split at hx
 ·unfold readP at hx
  split at hx
  ·cases hx
  ·rename_i l q h
   split at hx
   ·cases hx
   ·unfold decP at h
    split at h
    ·cases h
    ·split at h
     ·split at h
      ·cases h
      ·exact entsP_name h x hx
     ·cases h
 ·cases hx
theorem nameLe{s:U8} (h:isName s=true):s.length≤64:=by
 simp only[isName,Bool.and_eq_true,decide_eq_true_eq] at h;omega
theorem joinP_le{p n:U8} (h:n.length≤64):(joinP p n).length≤p.length+65:=by
 unfold joinP
 split
 ·omega
 ·simp;omega
structure WS.Good (k:Nat) (t:WS):Prop where
 n:t.n≤65536
 b:t.b≤67108864
 g:t.g≤t.n
 m:t.m.length≤t.n
 l:t.l.length≤t.n+k
structure Rm.Ok (rm:Rm):Prop where
 n : -9223372036854775808≤rm.n∧rm.n≤65536
 d : -9223372036854775808≤rm.d∧rm.d≤32
 b : -9223372036854775808≤rm.b∧rm.b≤67108864
def kOf (x:Std):Nat:=if x.dir=true then 1 else 0
theorem WS.Good.mono{t:WS}{k m:Nat} (h:t.Good k) (hk:k≤m):t.Good m:=⟨h.n,h.b,h.g,h.m,by have:=h.l;omega⟩
theorem ws0_good:ws0.Good 0:=⟨by simp[ws0],by simp[ws0],by simp[ws0],by simp[ws0],by simp[ws0]⟩
theorem push_good{t:WS} (x:Std) (h:t.Good 0):(push x t).Good (kOf x):=by
 unfold push kOf
 by_cases hx:x.dir=true
 ·rw[if_pos hx]
  by_cases h2:x.dep≠0
  ·rw[if_pos ⟨hx,h2⟩]
   exact⟨h.n,h.b,h.g,h.m,by have:=h.l;show(t.l++[_]).length≤_;simp;omega⟩
  ·rw[if_neg (fun hc=>h2 hc.2)]
   exact h.mono (by omega)
 ·rw[if_neg hx,if_neg (fun hc=>hx hc.1)]
  exact h
theorem visit_good{s:AS}{rm:Rm} (hrm:rm.Ok){x:Std}{t:WS} (h:t.Good (kOf x)) (he:(visit s rm x t).1=0):(visit s rm x t).2.2.Good 0:=by
 have h1:=h.n;have h2:=h.b;have h3:=h.g;have h4:=h.m;have h5:=h.l
 have hn:=hrm.n;have hb:=hrm.b
 unfold visit at he⊢
 by_cases c1:rm.d<x.dep
 ·rw[if_pos c1] at he;cases he
 rw[if_neg c1] at he⊢
 by_cases c2:rm.n<(t.n:Int)+1
 ·rw[if_pos c2] at he;cases he
 rw[if_neg c2] at he⊢
 by_cases c3:(s.get x.d).2≠0
 ·rw[if_pos c3] at he;exact absurd (Int.ofNat.inj he) c3
 rw[if_neg c3] at he⊢
 by_cases c4:x.dir=true
 ·rw[if_pos c4] at he⊢
  unfold kOf at h5
  rw[if_pos c4] at h5
  by_cases c5:decE (s.get x.d).1≠0
  ·rw[if_pos c5] at he;exact absurd he c5
  rw[if_neg c5]
  exact⟨by show t.n+1≤_;omega,h2,by show t.g+1≤t.n+1;omega,by show(t.m++[_]).length≤t.n+1;simp;omega,by show t.l.length≤t.n+1+0;omega⟩
 ·rw[if_neg c4] at he⊢
  unfold kOf at h5
  rw[if_neg c4] at h5
  by_cases c5:rm.b<(t.b:Int)+(s.get x.d).1.length
  ·rw[if_pos c5] at he;cases he
  rw[if_neg c5]
  exact⟨by show t.n+1≤_;omega,by show t.b+_≤_;omega,by show t.g+1≤t.n+1;omega,by show(t.m++[_]).length≤t.n+1;simp;omega,by show(t.l++[_]).length≤t.n+1+0;simp;omega⟩
theorem seqS_good{f:Std→WS→Int×WS} (hf:∀x t,t.Good 0→(f x t).1=0→(f x t).2.Good 0):∀{l:List Std}{t:WS},t.Good 0→(seqS f l t).1=0→(seqS f l t).2.Good 0
 | [],t,h,_=>h
 | x::l,t,h,he=>by
  rw[seqS] at he⊢
  by_cases c:(f x t).1≠0
  ·rw[if_pos c] at he;exact absurd he c
  ·rw[if_neg c] at he⊢
   exact seqS_good hf (hf x t h (by simpa using c)) he
theorem standP_good{s:AS}{rm:Rm} (hrm:rm.Ok):∀(n:Nat){x:Std}{t:WS},t.Good (kOf x)→(standP s rm n x t).1=0→(standP s rm n x t).2.Good 0
 | 0,x,t,h,he=>by cases he
 | n+1,x,t,h,he=>by
  rw[standP] at he⊢
  by_cases c:(visit s rm x t).1≠0
  ·rw[if_pos c] at he;exact absurd he c
  ·rw[if_neg c] at he⊢
   exact seqS_good (fun y u hu hy=>standP_good hrm n (push_good y hu) hy) (visit_good hrm h (by simpa using c)) he
def look (s:AS) (rm:Rm) (x:Std) (t:WS):Int×WS:=
 if rm.d<x.dep then (33,t) else
 if rm.n<(t.n:Int)+1 then (62,t.node) else
 ((s.get x.d).2,t.node.meet x)
theorem visit_look (s:AS) (rm:Rm) (x:Std) (t:WS):visit s rm x t=if (look s rm x t).1≠0 then ((look s rm x t).1,[],(look s rm x t).2) else
  if x.dir=true then (if decE (s.get x.d).1≠0 then (decE (s.get x.d).1,[],(look s rm x t).2) else (0,kids x (s.get x.d).1,(look s rm x t).2))
  else if rm.b<((look s rm x t).2.b:Int)+(s.get x.d).1.length then (63,[],(look s rm x t).2.byte (s.get x.d).1.length)
  else (0,[],((look s rm x t).2.byte (s.get x.d).1.length).item ⟨x.p,false,(s.get x.d).1⟩):=by
 unfold visit look
 by_cases c1:rm.d<x.dep
 ·simp only[if_pos c1];rfl
 simp only[if_neg c1]
 by_cases c2:rm.n<(t.n:Int)+1
 ·simp only[if_pos c2];rfl
 simp only[if_neg c2]
 by_cases c3:(s.get x.d).2≠0
 ·have c3':((s.get x.d).2:Int)≠0:=fun h=>c3 (Int.ofNat.inj h)
  rw[if_pos c3]
  simp only[if_pos c3']
 ·have c3':¬((s.get x.d).2:Int)≠0:=fun h=>h (by rw[show(s.get x.d).2=0 by simpa using c3];rfl)
  rw[if_neg c3]
  simp only[if_neg c3']
  rfl
theorem standP_file{s:AS}{rm:Rm} (hrm:rm.d≤32){n:Nat}{x:Std} (hx:x.dir=false) (hn:n+x.dep=34) (t:WS):standP s rm n x t=((visit s rm x t).1,(visit s rm x t).2.2):=by
 cases n with
 | zero=>
  rw[standP,visit_deep (by omega)]
 | succ n=>
  rw[standP]
  by_cases c:(visit s rm x t).1≠0
  ·rw[if_pos c]
  ·rw[if_neg c]
   have hk:(visit s rm x t).2.1=[]:=by
    cases h:(visit s rm x t).2.1 with
    | nil=>rfl
    | cons y l=>
     have:=(visit_kids (s:=s) (rm:=rm) (x:=x) (t:=t) (y:=y) (by rw[h];simp)).2
     rw[hx] at this;cases this
   rw[hk,seqS]
   have c:(visit s rm x t).1=0:=by simpa using c
   rw[c]
theorem push_file{x:Std} (hx:x.dir=false) (t:WS):push x t=t:=if_neg (by simp[hx])
def AS.gotN (s:AS) (g:Nat):AS:={ s with gets:=s.gets+g }
theorem AS.Ok.gotN{s:AS} (h:s.Ok) (g:Nat):(s.gotN g).Ok:=⟨h.k1,h.k2,h.cap,h.sorted,h.len,h.used⟩
theorem AS.Few.gotN{s:AS}{n:Nat} (h:s.Few n) (g:Nat):(s.gotN g).Few (n+g):=⟨Nat.le_add_right_of_le h.last,Nat.add_le_add_right h.gets g,Nat.le_add_right_of_le h.puts⟩
theorem get_len{s:AS} (ok:s.Ok) (d:U8):(s.get d).1.length≤67108864:=by
 unfold AS.get
 have hu:=ok.used
 split
 ·simp
 ·rename_i b hb
  split
  ·have:=used_mem (findX_some hb).1;simp only;omega
  ·simp
end Go.Gx
namespace Go.Gx
open Go.Proofs List
attribute [local irreducible] shaL cutD frontL
def wkC (br:Nat) (rm:Rm) (t:WS) (vL vM:Value):List Value:=[.pointer (some ⟨br,0,none⟩),.int .i64 rm.n,.int .i64 rm.d,.int .i64 rm.b,.int .i64 (t.n:Nat),.int .i64 (t.b:Nat),vL,vM]
def digsM (m:List ((List UInt8)×Bool)):List Value:=m.flatMap fun p=>u8s p.1
def wiC (u:WI×Value):List Value:=[str u.1.p,.bool u.1.dir,u.2]
def rowsW (T:List (WI×Value)):List Value:=T.flatMap wiC
theorem rowsW_snoc (T:List (WI×Value)) (u:WI×Value):rowsW (T++[u])=rowsW T++wiC u:=by simp[rowsW]
def DWk (bw br:Nat) (rm:Rm) (t:WS) (D W:(List (Nat×Obj))):Prop:=
 ∃vL LL vM LM T,W=(bw,blk 180 (wkC br rm t vL vM))::(LL++LM)∧OwnSl 155 3 vL t.l.length (rowsW T) LL∧OwnSl 44 32 vM t.m.length (digsM t.m) LM∧T.map (·.1)=t.l∧∀u∈T,Held D u.2 u.1.x
section
variable{S:List Nat}{A P X W W' R R' D:OL}{a b c:Nat×Obj}{w0 w w':World}
theorem Step.narrow (hw:Lives (W++D) w0) (h:Step ((W++D).map (·.1)) (A++D) w0 w):Step (W.map (·.1)) A w0 w:=by
 refine⟨⟨h.chg.os,h.chg.tape,h.chg.output,h.chg.size,fun k hk hn=>?_,h.chg.drawn⟩,(Step.dropR h).nodup,fun p hp=>h.has p (by simp[hp]),fun p hp=>?_⟩
 ·by_cases hD:k∈D.map (·.1)
  ·have ob:=mem_map.1 hD
   obtain⟨p,hp,rfl⟩:=ob
   rw[h.has p (by simp[hp]),hw.has p (by simp[hp])]
  ·exact h.chg.block k hk (by rw[map_append,mem_append];exact fun h=>h.elim hn hD)
 ·rcases h.new p (by simp[hp]) with h1 | h1
  ·rw[map_append,mem_append] at h1
   rcases h1 with h1 | h1
   ·exact .inl h1
   ·have hn:=h.nodup
    rw[map_append,nodup_append] at hn
    exact absurd rfl (hn.2.2 p.1 (mem_map_of_mem hp) p.1 h1)
  ·exact .inr h1
theorem Step.narrow2 (hw:Lives (W++(R++D)) w0) (h:Step ((W++(R++D)).map (·.1)) (W'++(R'++(X++D))) w0 w):Step ((W++R).map (·.1)) (W'++(R'++X)) w0 w:=by
 have hw':Lives ((W++R)++D) w0:=by rw[append_assoc];exact hw
 refine Step.narrow (D:=D) hw' ?_
 have e:(W'++(R'++X))++D=W'++(R'++(X++D)):=by simp[append_assoc]
 rw[e,append_assoc]
 exact h
end
section
variable{bw br N:Nat}{rm:Rm}{s:AS}{t:WS}{x:Std}{D W R:OL}{w0:World}
end
section
variable{S:List Nat}{A B X W W' R R' D L:OL}{w0 w w':World}
theorem Lives.mk (h:Step S L w0 w):Lives L w:=Step.own (L1:=L) (L:=[]) (by rw[append_nil];exact h)
theorem Step.wput (h:Step S (A++(W++(R++D))) w0 w) (hq:Step ((W++R).map (·.1)) (W'++(R'++X)) w w'):Step S (A++(W'++(R'++(X++D)))) w0 w':=by
 have h1:Step S ((W++R)++(A++D)) w0 w:=h.perm (by
  rw[←append_assoc W R D]
  exact perm_append_comm_assoc A (W++R) D)
 have h2:=Step.call h1 hq
 refine h2.perm ?_
 have e:(W'++(R'++X))++(A++D)=(W'++(R'++X))++(A++D):=rfl
 have e2:A++(W'++(R'++(X++D)))=A++((W'++(R'++X))++D):=by simp[append_assoc]
 rw[e2]
 exact perm_append_comm_assoc (W'++(R'++X)) A D
end
theorem mem_right{D X:OL}:∀p∈D,p∈X++D:=fun p hp=>mem_append_right _ hp
def WkPost (bw br:Nat) (rm:Rm) (s:AS) (r:Int×WS) (D W R:(List (Nat×Obj))) (w0:World) (e:Ending) (w':World):Prop:=
 ∃W' R' D',e=.returned (.int .i64 r.1)∧DWk bw br rm r.2 (D'++D) W'∧RRep br (s.gotN r.2.g) (D'++D) R'∧Step ((W++R).map (·.1)) (W'++(R'++D')) w0 w'
theorem bld_wi (p:U8) (a:Option Addr) (n c:Nat) (w:World):(Instr.build 155 #[(0,str p),(2,.slice a n c)]).run Tryz.prog w=.ok (.agg #[str p,.bool false,.slice a n c]) w:=by kernel_rfl
theorem bld_wd (p:U8) (w:World):(Instr.build 155 #[(0,str p),(1,.bool true)]).run Tryz.prog w=.ok (.agg #[str p,.bool true,.slice none 0 0]) w:=by kernel_rfl
section
variable{bw br N:Nat}{rm:Rm}{s:AS}{t:WS}{x:Std}{D W R:OL}{w0:World}
end
section
variable{P:Program}{f:Slots}{w w':World}{ops:Array Oper}{n d:Nat}{ds:List Deferred}
theorem CW.seqM{Q:Post}{x y:Code} (M:Slots→World→Prop) (h:CW P x (thenC (fun f' ds' w'=>ds'=ds∧M f' w') Q) n f ds w) (hr:∀f' w',M f' w'→CW P y Q n f' ds w'):CW P (.seq x y) Q n f ds w:=
 CW.seq (h.mono fun e f' ds' w' hq=>by
  cases e with
  | normal=>
   obtain⟨rfl,hM⟩:=hq
   exact hr _ _ hM
  | exit id=>exact hq
  | goto id=>exact hq
  | ret=>exact hq
  | panic ch=>exact hq
  | outgrown=>exact hq)
end
theorem mem_r3{a p:Nat×Obj}{W R X:OL} (h:p∈X):p∈a::(W++(R++X)):=by simp[h]
theorem look_deep{s:AS}{rm:Rm}{x:Std}{t:WS} (h:rm.d<x.dep):look s rm x t=(33,t):=if_pos h
theorem standP_err{s:AS}{rm:Rm} (hrm:rm.d≤32){n:Nat}{x:Std}{t:WS} (hn:n+x.dep=34) (h:(look s rm x t).1≠0):standP s rm n x t=look s rm x t:=by
 cases n with
 | zero=>rw[standP,look_deep (by omega)]
 | succ n=>
  rw[standP,visit_look,if_pos h]
  simp only[if_pos h]
theorem standP_bad{s:AS}{rm:Rm} (hrm:rm.d≤32){n:Nat}{x:Std}{t:WS} (hx:x.dir=true) (hn:n+x.dep=34) (h:(look s rm x t).1=0) (hd:decE (s.get x.d).1≠0):standP s rm n x t=(decE (s.get x.d).1,(look s rm x t).2):=by
 cases n with
 | zero=>rw[look_deep (by omega)] at h;cases h
 | succ n=>
  have hv:=visit_look s rm x t
  rw[if_neg (by rw[h];simp),if_pos hx,if_pos hd] at hv
  rw[standP,hv]
  exact if_pos hd
theorem standP_go{s:AS}{rm:Rm}{n:Nat}{x:Std}{t:WS} (hx:x.dir=true) (h:(look s rm x t).1=0) (hd:decE (s.get x.d).1=0):standP s rm (n+1) x t=seqS (fun y u=>standP s rm n y (push y u)) (kids x (s.get x.d).1) (look s rm x t).2:=by
 have hv:=visit_look s rm x t
 rw[if_neg (by rw[h];simp),if_pos hx,if_neg (by rw[hd];simp)] at hv
 rw[standP,hv]
 exact if_neg (by simp)
theorem push_g (x:Std) (t:WS):(push x t).g=t.g:=by unfold push;split <;> rfl
theorem push_m (x:Std) (t:WS):(push x t).m=t.m:=by unfold push;split <;> rfl
theorem push_dir{x:Std} (hx:x.dir=true) (h0:x.dep≠0) (t:WS):push x t = { t with l:=t.l++[⟨x.p,true,[]⟩] }:=if_pos ⟨hx,h0⟩
theorem look_good{s:AS}{rm:Rm} (hrm:rm.Ok){x:Std}{t:WS} (hx:x.dir=true) (h:t.Good 1) (he:(look s rm x t).1=0) (hd:decE (s.get x.d).1=0):(look s rm x t).2.Good 0:=by
 have hv:=visit_look s rm x t
 rw[if_neg (by rw[he];simp),if_pos hx,if_neg (by rw[hd];simp)] at hv
 have:=visit_good (s:=s) (x:=x) hrm (by rw[kOf,if_pos hx];exact h) (by rw[hv])
 rw[hv] at this;exact this
section
variable{S:List Nat}{A X W R D LL LM:OL}{a b c:Nat×Obj}{w0 w:World}
end
section
variable{bw br N:Nat}{rm:Rm}{s:AS}
end
def Stk (T E:TypeId) (sz bt:Nat) (l:List (List Value)) (W:(List (Nat×Obj))):Prop:=
 (∀c∈l,c.length=sz∧Cells1 c)∧∃v LS,W=(bt,blk T [v])::LS∧OwnSl E sz v l.length l.reverse.flatten LS
theorem flat_len{sz:Nat}:∀{l:List (List Value)},(∀c∈l,c.length=sz)→l.flatten.length=l.length*sz
 | [],_=>by simp
 | c::l,h=>by
  rw[flatten_cons,length_append,h c (by simp),flat_len (fun d hd=>h d (by simp[hd])),length_cons,Nat.add_mul];omega
theorem OwnSl.cutEnd{E:TypeId}{sz b k cap:Nat}{xs ys:List Value}{Lv:OL} (h:OwnSl E sz (.slice (some ⟨b,0,none⟩) (k+1) cap) (k+1) (xs++ys) Lv) (hx:xs.length=k*sz):OwnSl E sz (.slice (some ⟨b,0,none⟩) k cap) k xs Lv:=by
 obtain⟨h1,⟨h2,h3,h4⟩ | ⟨b',cap',more,h2,h3,h4⟩⟩:=h
 ·cases h2
 ·cases h2
  exact⟨hx,.inr ⟨b,cap,ys++more,rfl,by rw[←append_assoc];exact h3,by rw[←append_assoc];exact h4⟩⟩
theorem OwnSl.someK{E:TypeId}{sz k:Nat}{v:Value}{xs:List Value}{Lv:OL} (h:OwnSl E sz v (k+1) xs Lv):∃b cap more,v=.slice (some ⟨b,0,none⟩) (k+1) cap∧Lv=[(b,blk E (xs++more))]∧(xs++more).length=cap*sz:=by
 obtain⟨h1,⟨h2,h3,h4⟩ | h2⟩:=h
 ·cases h3
 ·exact h2
section
variable{bt:Nat}{l:List (List Value)}{c:List Value}{W:OL}{w0:World}
set_option maxHeartbeats 4000000 in
theorem pushstanding_spec (hS:Stk 209 212 34 bt l W) (hc:c.length=34) (hc1:Cells1 c) (hl:l.length<1000000000) (hw:Lives W w0) :
  CP 116 #[pt bt,.agg c.toArray] w0 fun e w'=>∃W',e=.returned (.tuple #[])∧Stk 209 212 34 bt (c::l) W'∧Step (W.map (·.1)) W' w0 w':=by
 obtain⟨hall,v,LS,rfl,hv⟩:=hS
 have hs:Step _ ((bt,blk 209 [v])::LS) w0 w0:=hw
 have ob:=hv.form
 obtain⟨va,vc,rfl⟩:=ob
 refine calls (n:=14) Tryz.func116 rfl rfl rfl ?_
 refine sr<|WL.box (cs:=c) rfl rfl rfl hs (fun b3 w hs=>?_)
 refine wZ<|CW.any (A:=fun w=>Step (List.map (·.1) ((bt,blk 209 [.slice va l.length vc])::LS)) [(b3,blk 212 c)] w0 w) (C:=fun w=>Step (List.map (·.1) ((bt,blk 209 [.slice va l.length vc])::LS)) [(b3,blk 212 c),(bt,blk 209 [.slice va l.length vc])] w0 w) 10 11 mixedP rfl ?_
 replace hs:=hs.drew
 refine aM 0 rfl<|aM 1 rfl<|aN 2 rfl rfl<|aF 3 rfl 0 u209 rfl ty207 rfl<|aL 4 rfl ty207 rfl (fun w hs=>hs.c1 rfl)<|aV 5 rfl (fun w hs=>run_loadN ty212 rfl hc hs.a0)<|AL.one 6 (by kernel_rfl) rfl (by exact Step.dropR (L1:=[(b3,_)]) hs) (by exact Step.dropR (L1:=[_,_]) hs) ?_
 refine WL.buildSlice (cs:=c) u207 ty212 rfl (by decide) rfl (filled1 hc rfl) rfl hs (fun b10 w hs=>?_)
 have hsl10:Sl w 34 (.slice (some ⟨b10,0,none⟩) 1 1) 1 c:=.own1 hs (by rw[hc])
 replace hs:=Step.append_comm (L1:=[_,_,_]) hs
 refine wZ<|⟨rfl,?_⟩
 refine AL.one 7 (by kernel_rfl) rfl (by exact Step.dropR (L1:=[(b3,_)]) (hs.dropL (L1:=LS)).tail) (by exact Step.dropR (L1:=[_,_]) (hs.dropL (L1:=LS)).tail) ?_
 refine WL.append u207 u207 ty212 rfl (by decide) rfl rfl (hv) (hs) (hsl10) (hc1) (by omega) rfl (fun v11 Lv11 w hv11 hs=>?_)
 replace hs:=Step.tail (Step.append_comm (L2:=[_,_,_]) hs)
 refine wZ<|⟨rfl,?_⟩
 refine AL.valA 8 rfl (by kernel_rfl) rfl (fun w hs=>run_nilCheck rfl) ?_
 refine aF 9 rfl 0 u209 rfl ty207 rfl<|AL.one 10 (by kernel_rfl) rfl (by exact Step.dropR (L1:=[(b3,_)]) hs) (by exact Step.dropR (L1:=[_,_]) hs) ?_
 refine ws1 ty207 rfl rfl (hv11.one) (hs.swap) (fun w hs=>?_)
 refine wZ<|⟨rfl,?_⟩
 refine AL.relax (by kernel_rfl) ?_
 refine AL.end (by kernel_rfl) (by exact Step.dropR (L1:=[(b3,_)]) hs.tail) (trivial) ?_
 refine fin_end0 rfl ?_
 refine⟨_,rfl,⟨fun d hd=>?_,v11,Lv11,rfl,?_⟩,hs.swap.tail⟩
 ·rcases mem_cons.1 hd with rfl | hd
  ·exact⟨hc,hc1⟩
  ·exact hall d hd
 ·rw[reverse_cons,flatten_append,flatten_singleton];exact hv11
set_option maxHeartbeats 4000000 in
theorem popstanding_nil (hS:Stk 209 212 34 bt [] W) (hw:Lives W w0) :
  CP 117 #[pt bt] w0 fun e w'=>∃z,e=.returned (.tuple #[.agg z.toArray,.bool false])∧z.length=34∧Cells1 z∧Step [] [] w0 w':=by
 obtain⟨hall,v,LS,rfl,hv⟩:=hS
 have ob:=hv.form
 obtain⟨va,vc,rfl⟩:=ob
 have hb:w0.heap[bt]?=some (blk 209 [.slice va 0 vc]):=hw.has (bt,blk 209 [.slice va 0 vc]) (by simp)
 have hat:At w0 bt 0 [.slice va 0 vc]:=At.of_blk hb
 have hs:Step [] [] w0 w0:=Step.refl w0
 refine calls (n:=39) Tryz.func117 rfl rfl rfl ?_
 refine sr<|WL.alloc ty212 rfl hs (fun b2 w hs=>?_)
 refine wA<|wZ<|sr<|WL.alloc ty212 rfl hs (fun b4 w hs=>?_)
 refine wZ<|cq<|sr<|wm<|wn rfl<|wF 0 u209 rfl ty207 rfl<|wl ty207 rfl ((hat.step hs.clear (by simp)).cell (j:=0) rfl)<|wL u207 rfl<|wV (run_bT (run_eql rfl rfl) (by rfl))<|wZ<|CW.cond rfl (fun h=>?_) (fun h=>?_)
 ·refine sr<|wR ty212 rfl (by rfl) hs.a0<|WL.storeAll_1 ty212 rfl rfl (by rfl) (by exact Cells1.of_all rfl) hs (by rfl) (fun w hs=>?_)
  refine wA<|wZ<|CW.ret ?_
  refine fin_cellTmp rfl rfl (run_loadVarN ty212 (by rfl) hs.a1) ?_
  exact⟨_,rfl,by rfl,Cells1.of_all rfl,hs.clear⟩
 ·cases h
set_option maxHeartbeats 4000000 in
theorem popstanding_spec (hS:Stk 209 212 34 bt (c::l) W) (hl:l.length<1000000000) (hw:Lives W w0) :
  CP 117 #[pt bt] w0 fun e w'=>∃W',e=.returned (.tuple #[.agg c.toArray,.bool true])∧Stk 209 212 34 bt l W'∧Step (W.map (·.1)) W' w0 w':=by
 obtain⟨hall,v,LS,rfl,hv⟩:=hS
 have hc:=hall c (by simp)
 have hcl:c.length=34:=hc.1
 have hl':∀d∈l,d.length=34:=fun d hd=>(hall d (by simp[hd])).1
 have hfl:=flat_len (l:=l.reverse) (fun d hd=>hl' d (by simpa using hd))
 rw[length_reverse] at hfl
 rw[length_cons,reverse_cons,flatten_append,flatten_singleton] at hv
 have ob:=hv.someK
 obtain⟨b,cap,more,rfl,rfl,hcap⟩:=ob
 have hcap2:l.length+1≤cap:=by
  rw[length_append,length_append,hfl,hc.1] at hcap
  omega
 have hs:Step [bt,b] ((bt,blk 209 [.slice (some ⟨b,0,none⟩) (l.length+1) cap])::(b,blk 212 (l.reverse.flatten++c++more))::[]) w0 w0:=hw
 have hrow:∀{X:OL}{w:World},Step [bt,b] X w0 w→(b,blk 212 (l.reverse.flatten++c++more))∈X→At w b (0+l.length*34) c:=fun h hm=>by
  have h1:=(At.of_blk (h.has _ hm)).left.right
  rw[hfl] at h1;exact h1
 refine calls (n:=39) Tryz.func117 rfl rfl rfl ?_
 refine sr<|WL.alloc ty212 rfl hs (fun b2 w hs=>?_)
 refine wA<|wZ<|sr<|WL.alloc ty212 rfl hs (fun b4 w hs=>?_)
 refine wZ<|cq<|sr<|wm<|wn rfl<|wF 0 u209 rfl ty207 rfl<|wl ty207 rfl (hs.c2 (v:=.slice (some ⟨b,0,none⟩) (l.length+1) cap) rfl)<|wL u207 rfl<|eF<|wZ<|CW.cond rfl (fun h=>?_) (fun h=>?_)
 ·cases h
 refine ck<|cq<|CW.quietT (l1:=[_,_,_,_,_,_,_,_,_,_,_,_]) (l2:=[_]) 12 rfl mixedP rfl (by kernel_rfl) hs ?_
 refine qm<|qn rfl<|qF 0 u209 rfl ty207 rfl<|qL ty207 rfl (fun w hs=>hs.c2 (v:=.slice (some ⟨b,0,none⟩) (l.length+1) cap) rfl)<|qm<|qn rfl<|qF 0 u209 rfl ty207 rfl<|qL ty207 rfl (fun w hs=>hs.c2 (v:=.slice (some ⟨b,0,none⟩) (l.length+1) cap) rfl)<|qV (fun w hs=>run_lenSl u207 rfl)<|qV (fun w hs=>run_sub (c:=((l.length:Nat):Int)) rfl rfl (by omega) (by omega))<|qI u207 ty212 rfl rfl<|qV (fun w hs=>run_loadN ty212 rfl hc.1 (hrow hs (by simp)))<|QL.nil (fun w hs=>?_)
 refine WL.storeAll ty212 rfl rfl ((hc.1)) ((hc.2)) hs (by rfl) (fun w hs=>?_)
 refine wZ<|cq<|CW.quietT (l1:=[_,_,_,_,_,_,_,_,_,_,_,_,_,_]) (l2:=[_]) 14 rfl mixedP rfl (by kernel_rfl) hs ?_
 refine qm<|qm<|qn rfl<|qF 0 u209 rfl ty207 rfl<|qL ty207 rfl (fun w hs=>hs.c2 (v:=.slice (some ⟨b,0,none⟩) (l.length+1) cap) rfl)<|qm<|qn rfl<|qF 0 u209 rfl ty207 rfl<|qL ty207 rfl (fun w hs=>hs.c2 (v:=.slice (some ⟨b,0,none⟩) (l.length+1) cap) rfl)<|qV (fun w hs=>run_lenSl u207 rfl)<|qV (fun w hs=>run_sub (c:=((l.length:Nat):Int)) rfl rfl (by omega) (by omega))<|qV (fun w hs=>run_sliceSl0  u207 ty212 rfl rfl rfl (by simp) (by omega) (by omega))<|qn rfl<|qF 0 u209 rfl ty207 rfl ?_
 refine QL.nil (fun w hs=>?_)
 refine WL.store1_2 ty207 rfl rfl (rfl) hs (by first | (simp;done) | omega | (simp only[length_append,length_replicate,length_cons,length_nil,length_set];omega) | (simp[Ent.cells,u8s];done) | exact Nat.le_of_ble_eq_true rfl) (fun w hs=>?_)
 refine wZ<|sr<|wR ty212 rfl hc.1 hs.a0<|WL.storeAll_1 ty212 rfl rfl ((hc.1)) ((hc.2)) hs (by rfl) (fun w hs=>?_)
 refine wA<|wZ<|CW.ret ?_
 refine fin_cellTmp rfl rfl (run_loadVarN ty212 (by assumption) hs.a1) ?_
 exact⟨_,rfl,⟨fun d hd=>hall d (by simp[hd]),_,_,rfl,OwnSl.cutEnd hv hfl⟩,hs.tail.tail⟩
end
section
variable{bt:Nat}{l:List (List Value)}{c:List Value}{W:OL}{w0:World}
set_option maxHeartbeats 4000000 in
theorem pushplace_spec (hS:Stk 217 220 33 bt l W) (hc:c.length=33) (hc1:Cells1 c) (hl:l.length<1000000000) (hw:Lives W w0) :
  CP 118 #[pt bt,.agg c.toArray] w0 fun e w'=>∃W',e=.returned (.tuple #[])∧Stk 217 220 33 bt (c::l) W'∧Step (W.map (·.1)) W' w0 w':=by
 obtain⟨hall,v,LS,rfl,hv⟩:=hS
 have hs:Step _ ((bt,blk 217 [v])::LS) w0 w0:=hw
 have ob:=hv.form
 obtain⟨va,vc,rfl⟩:=ob
 refine calls (n:=14) Tryz.func118 rfl rfl rfl ?_
 refine sr<|WL.box (cs:=c) rfl rfl rfl hs (fun b3 w hs=>?_)
 refine wZ<|CW.any (A:=fun w=>Step (List.map (·.1) ((bt,blk 217 [.slice va l.length vc])::LS)) [(b3,blk 220 c)] w0 w) (C:=fun w=>Step (List.map (·.1) ((bt,blk 217 [.slice va l.length vc])::LS)) [(b3,blk 220 c),(bt,blk 217 [.slice va l.length vc])] w0 w) 10 11 mixedP rfl ?_
 replace hs:=hs.drew
 refine aM 0 rfl<|aM 1 rfl<|aN 2 rfl rfl<|aF 3 rfl 0 u217 rfl ty215 rfl<|aL 4 rfl ty215 rfl (fun w hs=>hs.c1 rfl)<|aV 5 rfl (fun w hs=>run_loadN ty220 rfl hc hs.a0)<|AL.one 6 (by kernel_rfl) rfl (by exact Step.dropR (L1:=[(b3,_)]) hs) (by exact Step.dropR (L1:=[_,_]) hs) ?_
 refine WL.buildSlice (cs:=c) u215 ty220 rfl (by decide) rfl (filled1 hc rfl) rfl hs (fun b10 w hs=>?_)
 have hsl10:Sl w 33 (.slice (some ⟨b10,0,none⟩) 1 1) 1 c:=.own1 hs (by rw[hc])
 replace hs:=Step.append_comm (L1:=[_,_,_]) hs
 refine wZ<|⟨rfl,?_⟩
 refine AL.one 7 (by kernel_rfl) rfl (by exact Step.dropR (L1:=[(b3,_)]) (hs.dropL (L1:=LS)).tail) (by exact Step.dropR (L1:=[_,_]) (hs.dropL (L1:=LS)).tail) ?_
 refine WL.append u215 u215 ty220 rfl (by decide) rfl rfl (hv) (hs) (hsl10) (hc1) (by omega) rfl (fun v11 Lv11 w hv11 hs=>?_)
 replace hs:=Step.tail (Step.append_comm (L2:=[_,_,_]) hs)
 refine wZ<|⟨rfl,?_⟩
 refine AL.valA 8 rfl (by kernel_rfl) rfl (fun w hs=>run_nilCheck rfl) ?_
 refine aF 9 rfl 0 u217 rfl ty215 rfl<|AL.one 10 (by kernel_rfl) rfl (by exact Step.dropR (L1:=[(b3,_)]) hs) (by exact Step.dropR (L1:=[_,_]) hs) ?_
 refine ws1 ty215 rfl rfl (hv11.one) (hs.swap) (fun w hs=>?_)
 refine wZ<|⟨rfl,?_⟩
 refine AL.relax (by kernel_rfl) ?_
 refine AL.end (by kernel_rfl) (by exact Step.dropR (L1:=[(b3,_)]) hs.tail) (trivial) ?_
 refine fin_end0 rfl ?_
 refine⟨_,rfl,⟨fun d hd=>?_,v11,Lv11,rfl,?_⟩,hs.swap.tail⟩
 ·rcases mem_cons.1 hd with rfl | hd
  ·exact⟨hc,hc1⟩
  ·exact hall d hd
 ·rw[reverse_cons,flatten_append,flatten_singleton];exact hv11
set_option maxHeartbeats 4000000 in
theorem popplace_nil (hS:Stk 217 220 33 bt [] W) (hw:Lives W w0) :
  CP 119 #[pt bt] w0 fun e w'=>∃z,e=.returned (.tuple #[.agg z.toArray,.bool false])∧z.length=33∧Cells1 z∧Step [] [] w0 w':=by
 obtain⟨hall,v,LS,rfl,hv⟩:=hS
 have ob:=hv.form
 obtain⟨va,vc,rfl⟩:=ob
 have hb:w0.heap[bt]?=some (blk 217 [.slice va 0 vc]):=hw.has (bt,blk 217 [.slice va 0 vc]) (by simp)
 have hat:At w0 bt 0 [.slice va 0 vc]:=At.of_blk hb
 have hs:Step [] [] w0 w0:=Step.refl w0
 refine calls (n:=39) Tryz.func119 rfl rfl rfl ?_
 refine sr<|WL.alloc ty220 rfl hs (fun b2 w hs=>?_)
 refine wA<|wZ<|sr<|WL.alloc ty220 rfl hs (fun b4 w hs=>?_)
 refine wZ<|cq<|sr<|wm<|wn rfl<|wF 0 u217 rfl ty215 rfl<|wl ty215 rfl ((hat.step hs.clear (by simp)).cell (j:=0) rfl)<|wL u215 rfl<|wV (run_bT (run_eql rfl rfl) (by rfl))<|wZ<|CW.cond rfl (fun h=>?_) (fun h=>?_)
 ·refine sr<|wR ty220 rfl (by rfl) hs.a0<|WL.storeAll_1 ty220 rfl rfl (by rfl) (by exact Cells1.of_all rfl) hs (by rfl) (fun w hs=>?_)
  refine wA<|wZ<|CW.ret ?_
  refine fin_cellTmp rfl rfl (run_loadVarN ty220 (by rfl) hs.a1) ?_
  exact⟨_,rfl,by rfl,Cells1.of_all rfl,hs.clear⟩
 ·cases h
set_option maxHeartbeats 4000000 in
theorem popplace_spec (hS:Stk 217 220 33 bt (c::l) W) (hl:l.length<1000000000) (hw:Lives W w0) :
  CP 119 #[pt bt] w0 fun e w'=>∃W',e=.returned (.tuple #[.agg c.toArray,.bool true])∧Stk 217 220 33 bt l W'∧Step (W.map (·.1)) W' w0 w':=by
 obtain⟨hall,v,LS,rfl,hv⟩:=hS
 have hc:=hall c (by simp)
 have hcl:c.length=33:=hc.1
 have hl':∀d∈l,d.length=33:=fun d hd=>(hall d (by simp[hd])).1
 have hfl:=flat_len (l:=l.reverse) (fun d hd=>hl' d (by simpa using hd))
 rw[length_reverse] at hfl
 rw[length_cons,reverse_cons,flatten_append,flatten_singleton] at hv
 have ob:=hv.someK
 obtain⟨b,cap,more,rfl,rfl,hcap⟩:=ob
 have hcap2:l.length+1≤cap:=by
  rw[length_append,length_append,hfl,hc.1] at hcap
  omega
 have hs:Step [bt,b] ((bt,blk 217 [.slice (some ⟨b,0,none⟩) (l.length+1) cap])::(b,blk 220 (l.reverse.flatten++c++more))::[]) w0 w0:=hw
 have hrow:∀{X:OL}{w:World},Step [bt,b] X w0 w→(b,blk 220 (l.reverse.flatten++c++more))∈X→At w b (0+l.length*33) c:=fun h hm=>by
  have h1:=(At.of_blk (h.has _ hm)).left.right
  rw[hfl] at h1;exact h1
 refine calls (n:=39) Tryz.func119 rfl rfl rfl ?_
 refine sr<|WL.alloc ty220 rfl hs (fun b2 w hs=>?_)
 refine wA<|wZ<|sr<|WL.alloc ty220 rfl hs (fun b4 w hs=>?_)
 refine wZ<|cq<|sr<|wm<|wn rfl<|wF 0 u217 rfl ty215 rfl<|wl ty215 rfl (hs.c2 (v:=.slice (some ⟨b,0,none⟩) (l.length+1) cap) rfl)<|wL u215 rfl<|eF<|wZ<|CW.cond rfl (fun h=>?_) (fun h=>?_)
 ·cases h
 refine ck<|cq<|CW.quietT (l1:=[_,_,_,_,_,_,_,_,_,_,_,_]) (l2:=[_]) 12 rfl mixedP rfl (by kernel_rfl) hs ?_
 refine qm<|qn rfl<|qF 0 u217 rfl ty215 rfl<|qL ty215 rfl (fun w hs=>hs.c2 (v:=.slice (some ⟨b,0,none⟩) (l.length+1) cap) rfl)<|qm<|qn rfl<|qF 0 u217 rfl ty215 rfl<|qL ty215 rfl (fun w hs=>hs.c2 (v:=.slice (some ⟨b,0,none⟩) (l.length+1) cap) rfl)<|qV (fun w hs=>run_lenSl u215 rfl)<|qV (fun w hs=>run_sub (c:=((l.length:Nat):Int)) rfl rfl (by omega) (by omega))<|qI u215 ty220 rfl rfl<|qV (fun w hs=>run_loadN ty220 rfl hc.1 (hrow hs (by simp)))<|QL.nil (fun w hs=>?_)
 refine WL.storeAll ty220 rfl rfl ((hc.1)) ((hc.2)) hs (by rfl) (fun w hs=>?_)
 refine wZ<|cq<|CW.quietT (l1:=[_,_,_,_,_,_,_,_,_,_,_,_,_,_]) (l2:=[_]) 14 rfl mixedP rfl (by kernel_rfl) hs ?_
 refine qm<|qm<|qn rfl<|qF 0 u217 rfl ty215 rfl<|qL ty215 rfl (fun w hs=>hs.c2 (v:=.slice (some ⟨b,0,none⟩) (l.length+1) cap) rfl)<|qm<|qn rfl<|qF 0 u217 rfl ty215 rfl<|qL ty215 rfl (fun w hs=>hs.c2 (v:=.slice (some ⟨b,0,none⟩) (l.length+1) cap) rfl)<|qV (fun w hs=>run_lenSl u215 rfl)<|qV (fun w hs=>run_sub (c:=((l.length:Nat):Int)) rfl rfl (by omega) (by omega))<|qV (fun w hs=>run_sliceSl0  u215 ty220 rfl rfl rfl (by simp) (by omega) (by omega))<|qn rfl<|qF 0 u217 rfl ty215 rfl ?_
 refine QL.nil (fun w hs=>?_)
 refine WL.store1_2 ty215 rfl rfl (rfl) hs (by first | (simp;done) | omega | (simp only[length_append,length_replicate,length_cons,length_nil,length_set];omega) | (simp[Ent.cells,u8s];done) | exact Nat.le_of_ble_eq_true rfl) (fun w hs=>?_)
 refine wZ<|sr<|wR ty220 rfl hc.1 hs.a0<|WL.storeAll_1 ty220 rfl rfl ((hc.1)) ((hc.2)) hs (by rfl) (fun w hs=>?_)
 refine wA<|wZ<|CW.ret ?_
 refine fin_cellTmp rfl rfl (run_loadVarN ty220 (by assumption) hs.a1) ?_
 exact⟨_,rfl,⟨fun d hd=>hall d (by simp[hd]),_,_,rfl,OwnSl.cutEnd hv hfl⟩,hs.tail.tail⟩
end
abbrev DM:=List ((List UInt8)×Value×Nat)
def valD (d:(List UInt8)) (M:DM):Option Value:=(findD d M 0).map (·.2)
theorem valD_nil (d:U8):valD d []=none:=rfl
theorem valD_cons (d:U8) (p:List UInt8×Value×Nat) (M:DM):valD d (p::M)=if d=p.1 then some p.2.1 else valD d M:=by
 have e:findD d (p::M) 0=if d=p.1 then some (0,p.2.1) else findD d M 1:=rfl
 unfold valD
 rw[e]
 by_cases h:d=p.1
 ·rw[if_pos h,if_pos h];rfl
 ·rw[if_neg h,if_neg h,findD_shift,Option.map_map];rfl
theorem valD_isSome (d:U8) (M:DM):(findD d M 0).isSome=(valD d M).isSome:=by unfold valD;rw[Option.isSome_map]
theorem valD_upd{d:U8} (v:Value):∀{M:DM},(valD d M).isSome=true→∀d',valD d' (updD d v M)=if d'=d then some v else valD d' M
 | [],h,d'=>by cases h
 | p::M,h,d'=>by
  unfold updD
  by_cases hd:d=p.1
  ·rw[if_pos hd,valD_cons,valD_cons,hd]
   by_cases h2:d'=p.1
   ·rw[if_pos h2,if_pos h2]
   ·rw[if_neg h2,if_neg h2,if_neg h2]
  ·rw[valD_cons,if_neg hd] at h
   rw[if_neg hd,valD_cons,valD_cons,valD_upd v h d']
   by_cases h2:d'=p.1
   ·rw[if_pos h2,if_pos h2,if_neg (by rw[h2];exact fun e=>hd e.symm)]
   ·rw[if_neg h2,if_neg h2]
theorem valD_snoc{d:U8} (v:Value) (c:Nat):∀{M:DM},valD d M=none→∀d',valD d' (M++[(d,v,c)])=if d'=d then some v else valD d' M
 | [],h,d'=>by rw[nil_append,valD_cons]
 | p::M,h,d'=>by
  rw[valD_cons] at h
  by_cases hd:d=p.1
  ·rw[if_pos hd] at h;cases h
  ·rw[if_neg hd] at h
   rw[cons_append,valD_cons,valD_cons,valD_snoc v c h d']
   by_cases h2:d'=p.1
   ·rw[if_pos h2,if_pos h2,if_neg (by rw[h2];exact fun e=>hd e.symm)]
   ·rw[if_neg h2,if_neg h2]
theorem valD_put (d:U8) (v:Value) (c:Nat) (M:DM) (d':U8):valD d' (putM d v c M)=if d'=d then some v else valD d' M:=by
 unfold putM
 rw[valD_isSome]
 cases h:valD d M with
 | none=>rw[if_neg (by simp)];exact valD_snoc v c h d'
 | some u=>rw[if_pos (show(some u).isSome=true from rfl)];exact valD_upd v (by rw[h];rfl) d'
theorem Keys32.upd{d:U8} (v:Value):∀{M:DM},Keys32 M→Keys32 (updD d v M)
 | [],h=>h
 | p::M,h=>by
  unfold updD
  split
  ·intro q hq
   rcases mem_cons.1 hq with rfl | hq
   ·exact h p (by simp)
   ·exact h q (by simp[hq])
  ·intro q hq
   rcases mem_cons.1 hq with rfl | hq
   ·exact h _ (by simp)
   ·exact Keys32.upd v (M:=M) (fun q hq=>h q (by simp[hq])) q hq
theorem Keys32.put{d:U8}{M:DM} (h:Keys32 M) (hd:d.length=32) (v:Value) (c:Nat):Keys32 (putM d v c M):=by
 unfold putM
 split
 ·exact h.upd v
 ·intro q hq
  rcases mem_append.1 hq with hq | hq
  ·exact h q hq
  ·obtain rfl:=mem_singleton.1 hq;exact hd
def ordM (m:List ((List UInt8)×Bool)):List (List UInt8):=m.foldl (fun o p=>if p.1∈o then o else o++[p.1]) []
theorem ordM_snoc (m:List (List UInt8×Bool)) (d:U8) (b:Bool):ordM (m++[(d,b)])=if d∈ordM m then ordM m else ordM m++[d]:=by
 unfold ordM;rw[foldl_append];rfl
theorem ordM_mem{d:U8}:∀{m:List (List UInt8×Bool)},d∈ordM m↔d∈m.map (·.1):=by
 have h:∀(m:List (List UInt8×Bool)) (o:List (List UInt8)),d∈m.foldl (fun o p=>if p.1∈o then o else o++[p.1]) o↔d∈o∨d∈m.map (·.1):=by
  intro m
  induction m with
  | nil=>intro o;simp
  | cons p m ih=>
   intro o
   rw[foldl_cons,ih,map_cons,mem_cons]
   split
   ·rename_i hp
    constructor
    ·rintro(h | h)
     ·exact .inl h
     ·exact .inr (.inr h)
    ·rintro(h | rfl | h)
     ·exact .inl h
     ·exact .inl hp
     ·exact .inr h
   ·rw[mem_append,mem_singleton,or_assoc]
 intro m
 unfold ordM
 rw[h]
 simp
theorem ordM_nodup:∀{m:List (List UInt8×Bool)},(ordM m).Nodup:=by
 have h:∀(m:List (List UInt8×Bool)) (o:List (List UInt8)),o.Nodup→(m.foldl (fun o p=>if p.1∈o then o else o++[p.1]) o).Nodup:=by
  intro m
  induction m with
  | nil=>intro o h;exact h
  | cons p m ih=>
   intro o h
   rw[foldl_cons]
   split
   ·exact ih o h
   ·rename_i hp
    refine ih _ ?_
    rw[nodup_append]
    exact⟨h,by simp,fun a ha b hb e=>by
     obtain rfl:=mem_singleton.1 hb
     exact hp (e▸ha)⟩
 intro m
 exact h m [] (by simp)
theorem ordM_len (m:List (List UInt8×Bool)):(ordM m).length≤m.length:=by
 have h:∀(m:List (List UInt8×Bool)) (o:List (List UInt8)),(m.foldl (fun o p=>if p.1∈o then o else o++[p.1]) o).length≤o.length+m.length:=by
  intro m
  induction m with
  | nil=>intro o;simp
  | cons p m ih=>
   intro o
   rw[foldl_cons,length_cons]
   split
   ·have:=ih o;omega
   ·have:=ih (o++[p.1]);rw[length_append,length_singleton] at this;omega
 have:=h m []
 simpa[ordM] using this
def digsL (l:List (List UInt8)):List Value:=l.flatMap u8s
theorem digsL_snoc (l:List (List UInt8)) (d:U8):digsL (l++[d])=digsL l++u8s d:=by simp[digsL]
def HeldP (D:(List (Nat×Obj))) (v:Value) (l:List (List UInt8)):Prop:=∃Lv,OwnSl 44 32 v l.length (digsL l) Lv∧∀p∈Lv,p∈D
theorem HeldP.mono {D D':OL}{v:Value}{l:List (List UInt8)} (h:HeldP D v l) (hD:∀p∈D,p∈D'):HeldP D' v l:=by
 obtain⟨Lv,h1,h2⟩:=h
 exact⟨Lv,h1,fun p hp=>hD p (h2 p hp)⟩
def partsD (s:AS) (d:(List UInt8)):List (List UInt8):=(decL (s.get d).1).map (·.dig)
structure MapB (s:AS) (D:(List (Nat×Obj))) (m:List ((List UInt8)×Bool)) (M:DM):Prop where
 keys:Keys32 M
 val:∀d,match valD d M with | some v=>d∈ordM m∧Held D v (s.get d).1 | none=>d∉ordM m
structure MapP (s:AS) (D:(List (Nat×Obj))) (m:List ((List UInt8)×Bool)) (M:DM):Prop where
 keys:Keys32 M
 val:∀d,match valD d M with | some v=>(d,true)∈m∧HeldP D v (partsD s d) | none=>(d,true)∉m
section
variable{s:AS}{D D':OL}{m:List (List UInt8×Bool)}{M:DM}{d:U8}{v:Value}{b:Bool}
theorem MapB.mono (h:MapB s D m M) (hD:∀p∈D,p∈D'):MapB s D' m M:=⟨h.keys,fun d=>by
 have:=h.val d
 cases hv:valD d M with
 | none=>rw[hv] at this;exact this
 | some v=>rw[hv] at this;exact⟨this.1,this.2.mono hD⟩⟩
theorem MapP.mono (h:MapP s D m M) (hD:∀p∈D,p∈D'):MapP s D' m M:=⟨h.keys,fun d=>by
 have:=h.val d
 cases hv:valD d M with
 | none=>rw[hv] at this;exact this
 | some v=>rw[hv] at this;exact⟨this.1,this.2.mono hD⟩⟩
theorem MapB.put (h:MapB s D m M) (hd:d.length=32) (hv:Held D v (s.get d).1) (c:Nat):MapB s D (m++[(d,b)]) (putM d v c M):=by
 have hm:∀e,e∈ordM (m++[(d,b)])↔e∈ordM m∨e=d:=fun e=>by
  rw[ordM_mem,ordM_mem,map_append,mem_append];simp
 refine⟨h.keys.put hd v c,fun e=>?_⟩
 rw[valD_put]
 by_cases he:e=d
 ·rw[if_pos he]
  exact⟨(hm e).2 (.inr he),he▸hv⟩
 ·rw[if_neg he]
  have:=h.val e
  cases hx:valD e M with
  | none=>rw[hx] at this;exact fun hc=>((hm e).1 hc).elim this he
  | some u=>rw[hx] at this;exact⟨(hm e).2 (.inl this.1),this.2⟩
theorem MapP.file (h:MapP s D m M):MapP s D (m++[(d,false)]) M:=by
 refine⟨h.keys,fun e=>?_⟩
 have:=h.val e
 cases hx:valD e M with
 | none=>rw[hx] at this;simpa using this
 | some u=>rw[hx] at this;exact⟨by simp[this.1],this.2⟩
theorem MapP.put (h:MapP s D m M) (hd:d.length=32) (hv:HeldP D v (partsD s d)) (c:Nat):MapP s D (m++[(d,true)]) (putM d v c M):=by
 refine⟨h.keys.put hd v c,fun e=>?_⟩
 rw[valD_put]
 by_cases he:e=d
 ·rw[if_pos he]
  exact⟨by simp[he],he▸hv⟩
 ·rw[if_neg he]
  have:=h.val e
  cases hx:valD e M with
  | none=>rw[hx] at this;simpa[he] using this
  | some u=>rw[hx] at this;exact⟨by simp[this.1],this.2⟩
end
def MetRep (bm:Nat) (s:AS) (m:List ((List UInt8)×Bool)) (D W:(List (Nat×Obj))):Prop:=
 ∃vO LO r1 M1 c1 r2 M2 c2,W=(bm,blk 132 [vO,.map (some r1),.map (some r2)])::(r1,mapObj M1 c1)::(r2,mapObj M2 c2)::LO∧
  OwnSl 44 32 vO (ordM m).length (digsL (ordM m)) LO∧MapB s D m M1∧MapP s D m M2
theorem MetRep.mono{bm:Nat}{s:AS}{m:List (List UInt8×Bool)}{D D' W:OL} (h:MetRep bm s m D W) (hD:∀p∈D,p∈D'):MetRep bm s m D' W:=by
 obtain⟨vO,LO,r1,M1,c1,r2,M2,c2,h1,h2,h3,h4⟩:=h
 exact⟨vO,LO,r1,M1,c1,r2,M2,c2,h1,h2,h3.mono hD,h4.mono hD⟩
def stdC (x:Std):List Value:=u8s x.d++[.bool x.dir,.int .i64 (x.dep:Nat)]
theorem stdC_len{x:Std} (h:x.d.length=32):(stdC x).length=34:=by simp[stdC,u8s,h]
theorem stdC_c1 (x:Std):Cells1 (stdC x):=(Cells1.u8s _).append (Cells1.of_all rfl)
section
variable{P:Program}{f:Slots}{w:World}{d:Option Tmp}{ty:TypeId}{pos:String}{af:Array Edge}{x y:Operand}{k:IntKind}{a b:Int}{ats:Array TypeId}
theorem run_minZ (hx:ev f x=.int k a) (hy:ev f y=.int k b):(execOp (ev f) ⟨d,.call { callee:=.builtin .min,args:=#[x,y],argTypes:=ats },ty,pos,af,none⟩).run P w=.ok (.value (.int k (minZ a b))) w:=by
 have e:minZ a b=if b<a then b else a:=by unfold minZ;split <;> split <;> omega
 rw[e]
 by_cases h:b<a <;> simp[execOp,resolve,invoke,builtin,Builtin.min_,Builtin.min2,hx,hy,h]
end
theorem bld_met (a b:Nat) (w:World):(Instr.build 132 #[(1,.map (some a)),(2,.map (some b))]).run Tryz.prog w=.ok (.agg #[.slice none 0 0,.map (some a),.map (some b)]) w:=by kernel_rfl
theorem bld_room (a b c:Int) (w:World):(Instr.build 30 #[(0,.int .i64 a),(1,.int .i64 b),(2,.int .i64 c)]).run Tryz.prog w=.ok (.agg #[.int .i64 a,.int .i64 b,.int .i64 c]) w:=by kernel_rfl
theorem bld_std32 (a0 a1 a2 a3 a4 a5 a6 a7 a8 a9 a10 a11 a12 a13 a14 a15 a16 a17 a18 a19 a20 a21 a22 a23 a24 a25 a26 a27 a28 a29 a30 a31:UInt8) (b:Bool) (z:Int) (w:World):(Instr.build 212 #[(0,.agg (u8s [a0,a1,a2,a3,a4,a5,a6,a7,a8,a9,a10,a11,a12,a13,a14,a15,a16,a17,a18,a19,a20,a21,a22,a23,a24,a25,a26,a27,a28,a29,a30,a31]).toArray),(1,.bool b),(2,.int .i64 z)]).run Tryz.prog w=.ok (.agg (u8s [a0,a1,a2,a3,a4,a5,a6,a7,a8,a9,a10,a11,a12,a13,a14,a15,a16,a17,a18,a19,a20,a21,a22,a23,a24,a25,a26,a27,a28,a29,a30,a31]++[Value.bool b,.int .i64 z]).toArray) w:=by kernel_rfl
theorem bld_std{d:U8} (hd:d.length=32) (b:Bool) (z:Int) (w:World):(Instr.build 212 #[(0,.agg (u8s d).toArray),(1,.bool b),(2,.int .i64 z)]).run Tryz.prog w=.ok (.agg (u8s d++[Value.bool b,.int .i64 z]).toArray) w:=by
 have ob:=cells32 hd
 obtain⟨a0,a1,a2,a3,a4,a5,a6,a7,a8,a9,a10,a11,a12,a13,a14,a15,a16,a17,a18,a19,a20,a21,a22,a23,a24,a25,a26,a27,a28,a29,a30,a31,rfl⟩:=ob
 exact bld_std32 a0 a1 a2 a3 a4 a5 a6 a7 a8 a9 a10 a11 a12 a13 a14 a15 a16 a17 a18 a19 a20 a21 a22 a23 a24 a25 a26 a27 a28 a29 a30 a31 b z w
theorem bld_root32 (a0 a1 a2 a3 a4 a5 a6 a7 a8 a9 a10 a11 a12 a13 a14 a15 a16 a17 a18 a19 a20 a21 a22 a23 a24 a25 a26 a27 a28 a29 a30 a31:UInt8) (w:World):(Instr.build 212 #[(0,.agg (u8s [a0,a1,a2,a3,a4,a5,a6,a7,a8,a9,a10,a11,a12,a13,a14,a15,a16,a17,a18,a19,a20,a21,a22,a23,a24,a25,a26,a27,a28,a29,a30,a31]).toArray),(1,.bool true)]).run Tryz.prog w=.ok (.agg (u8s [a0,a1,a2,a3,a4,a5,a6,a7,a8,a9,a10,a11,a12,a13,a14,a15,a16,a17,a18,a19,a20,a21,a22,a23,a24,a25,a26,a27,a28,a29,a30,a31]++[Value.bool true,.int .i64 0]).toArray) w:=by kernel_rfl
theorem bld_root{d:U8} (hd:d.length=32) (w:World):(Instr.build 212 #[(0,.agg (u8s d).toArray),(1,.bool true)]).run Tryz.prog w=.ok (.agg (stdC (rootS d)).toArray) w:=by
 have ob:=cells32 hd
 obtain⟨a0,a1,a2,a3,a4,a5,a6,a7,a8,a9,a10,a11,a12,a13,a14,a15,a16,a17,a18,a19,a20,a21,a22,a23,a24,a25,a26,a27,a28,a29,a30,a31,rfl⟩:=ob
 exact bld_root32 a0 a1 a2 a3 a4 a5 a6 a7 a8 a9 a10 a11 a12 a13 a14 a15 a16 a17 a18 a19 a20 a21 a22 a23 a24 a25 a26 a27 a28 a29 a30 a31 w
def FwPost (bp:Nat) (s:AS) (r:Int×WS) (D L:(List (Nat×Obj))) (w0:World) (e:Ending) (w':World):Prop:=
 ∃v L' D' M,e=.returned (.tuple #[v,.int .i64 r.1])∧PRep bp (s.gotN r.2.g) (D'++D) L'∧(r.1=0→∃bm,v=.pointer (some ⟨bm,0,none⟩)∧MetRep bm s r.2.m (D'++D) M)∧(r.1≠0→v=.pointer none)∧Step (L.map (·.1)) (L'++(M++D')) w0 w'
section
variable{S:List Nat}{L L1 M D D1 T X LO Y Z:OL}{a b p q r:Nat×Obj}{w0 w w':World}
theorem Step.fin (hw:Lives (L++D) w0) (h:Step ((L++D).map (·.1)) (M++(L1++(D1++D))) w0 w):Step (L.map (·.1)) (L1++(M++D1)) w0 w:=
 Step.narrow (D:=D) hw (h.perm (by
  have e:(L1++(M++D1))++D=L1++(M++(D1++D)):=by simp[append_assoc]
  rw[e]
  exact perm_append_comm_assoc M L1 (D1++D)))
theorem Step.as2 (h:Step S (a::b::(T++(M++X))) w w'):Step S (a::b::((T++M)++X)) w w':=by rw[append_assoc];exact h
theorem Step.toMet (h:Step S (a::b::((T++(p::q::r::LO))++X)) w w'):Step S (p::q::r::a::b::(LO++(T++X))) w w':=h.perm (by
 have e:(a::b::((T++(p::q::r::LO))++X))=[a,b]++(T++([p,q,r]++(LO++X))):=by simp[append_assoc]
 have e2:p::q::r::a::b::(LO++(T++X))=[p,q,r]++([a,b]++(LO++(T++X))):=rfl
 rw[e,e2]
 refine((perm_append_comm_assoc T [p,q,r] (LO++X)).append_left [a,b]).trans ?_
 refine(perm_append_comm_assoc [a,b] [p,q,r] _).trans ?_
 exact((perm_append_comm_assoc T LO X).append_left [a,b]).append_left [p,q,r])
theorem Step.ofMet (h:Step S (p::q::r::a::b::(LO++(T++X))) w w'):Step S (b::(T++((p::q::r::LO)++X))) w w':=Step.tail (p:=a) (h.perm (by
 have e:a::b::(T++((p::q::r::LO)++X))=[a,b]++(T++([p,q,r]++(LO++X))):=by simp[append_assoc]
 have e2:p::q::r::a::b::(LO++(T++X))=[p,q,r]++([a,b]++(LO++(T++X))):=rfl
 rw[e,e2]
 refine List.Perm.symm ?_
 refine((perm_append_comm_assoc T [p,q,r] (LO++X)).append_left [a,b]).trans ?_
 refine(perm_append_comm_assoc [a,b] [p,q,r] _).trans ?_
 exact((perm_append_comm_assoc T LO X).append_left [a,b]).append_left [p,q,r]))
theorem Step.toStk (h:Step S (Y++(p::q::r::a::b::(LO++(T++X)))) w w'):Step S (a::(T++(Y++(p::q::r::b::(LO++X))))) w w':=h.perm (by
 have e1:Y++(p::q::r::a::b::(LO++(T++X)))=Y++([p,q,r]++([a]++([b]++(LO++(T++X))))):=rfl
 have e2:a::(T++(Y++(p::q::r::b::(LO++X))))=[a]++(T++(Y++([p,q,r]++([b]++(LO++X))))):=rfl
 rw[e1,e2]
 have h1:([b]++(LO++(T++X))).Perm (T++([b]++(LO++X))):=((perm_append_comm_assoc LO T X).append_left [b]).trans (perm_append_comm_assoc [b] T _)
 have h2:([p,q,r]++([a]++([b]++(LO++(T++X))))).Perm ([a]++(T++([p,q,r]++([b]++(LO++X))))):=by
  refine(perm_append_comm_assoc [p,q,r] [a] _).trans (List.Perm.append_left [a] ?_)
  exact(h1.append_left [p,q,r]).trans (perm_append_comm_assoc [p,q,r] T _)
 refine(h2.append_left Y).trans ?_
 refine(perm_append_comm_assoc Y [a] _).trans (List.Perm.append_left [a] ?_)
 exact perm_append_comm_assoc Y T _)
theorem Step.ofStk (h:Step S (Z++(a::(T++(Y++(p::q::r::b::(LO++X)))))) w w'):Step S (p::q::r::a::b::(LO++(T++(Z++X)))) w w':=Step.dropL (L1:=Y) (h.perm (by
 have e1:Z++(a::(T++(Y++(p::q::r::b::(LO++X)))))=Z++([a]++(T++(Y++([p,q,r]++([b]++(LO++X)))))):=rfl
 have e2:p::q::r::a::b::(LO++(T++(Z++X)))=[p,q,r]++([a]++([b]++(LO++(T++(Z++X))))):=rfl
 rw[e1,e2]
 have g1:(Z++([a]++(T++(Y++([p,q,r]++([b]++(LO++X))))))).Perm (Y++(Z++([a]++(T++([p,q,r]++([b]++(LO++X))))))):=by
  refine(((perm_append_comm_assoc T Y _).append_left [a]).append_left Z).trans ?_
  refine((perm_append_comm_assoc [a] Y _).append_left Z).trans ?_
  exact perm_append_comm_assoc Z Y _
 refine g1.trans (List.Perm.append_left Y ?_)
 have g2:(Z++([a]++(T++([p,q,r]++([b]++(LO++X)))))).Perm ([p,q,r]++(Z++([a]++(T++([b]++(LO++X)))))):=by
  refine(((perm_append_comm_assoc T [p,q,r] _).append_left [a]).append_left Z).trans ?_
  refine((perm_append_comm_assoc [a] [p,q,r] _).append_left Z).trans ?_
  exact perm_append_comm_assoc Z [p,q,r] _
 refine g2.trans (List.Perm.append_left [p,q,r] ?_)
 refine(perm_append_comm_assoc Z [a] _).trans (List.Perm.append_left [a] ?_)
 have g3:(Z++(T++([b]++(LO++X)))).Perm ([b]++(Z++(T++(LO++X)))):=((perm_append_comm_assoc T [b] _).append_left Z).trans (perm_append_comm_assoc Z [b] _)
 refine g3.trans (List.Perm.append_left [b] ?_)
 have g4:(Z++(T++(LO++X))).Perm (LO++(Z++(T++X))):=((perm_append_comm_assoc T LO _).append_left Z).trans (perm_append_comm_assoc Z LO _)
 refine g4.trans (List.Perm.append_left LO ?_)
 exact perm_append_comm_assoc Z T X))
end
theorem push_n (x:Std) (t:WS):(push x t).n=t.n:=by unfold push;split <;> rfl
theorem push_b (x:Std) (t:WS):(push x t).b=t.b:=by unfold push;split <;> rfl
def roomC (rm:Rm):List Value:=[.int .i64 rm.n,.int .i64 rm.d,.int .i64 rm.b]
theorem zBytes (w:World):(zeroValue 76).run Tryz.prog w=.ok (.slice none 0 0) w:=by kernel_rfl
section
variable{s:AS}{rm:Rm}{x:Std}{t:WS}
theorem visit_nodes (c1:¬rm.d<x.dep) (c2:rm.n<(t.n:Int)+1):visit s rm x t=(62,[],t.node):=by rw[visit,if_neg c1,if_pos c2]
theorem visit_get (c1:¬rm.d<x.dep) (c2:¬rm.n<(t.n:Int)+1) (c3:(s.get x.d).2≠0):visit s rm x t=(((s.get x.d).2:Int),[],t.node.meet x):=by rw[visit,if_neg c1,if_neg c2,if_pos c3]
theorem visit_bytes (c1:¬rm.d<x.dep) (c2:¬rm.n<(t.n:Int)+1) (c3:¬(s.get x.d).2≠0) (c4:x.dir=false) (c5:rm.b<(t.b:Int)+(s.get x.d).1.length):visit s rm x t=(63,[],(t.node.meet x).byte (s.get x.d).1.length):=by
 rw[visit,if_neg c1,if_neg c2,if_neg c3,if_neg (by simp[c4]),if_pos c5]
theorem visit_file (c1:¬rm.d<x.dep) (c2:¬rm.n<(t.n:Int)+1) (c3:¬(s.get x.d).2≠0) (c4:x.dir=false) (c5:¬rm.b<(t.b:Int)+(s.get x.d).1.length):visit s rm x t=(0,[],((t.node.meet x).byte (s.get x.d).1.length).item ⟨x.p,false,(s.get x.d).1⟩):=by
 rw[visit,if_neg c1,if_neg c2,if_neg c3,if_neg (by simp[c4]),if_neg c5]
theorem visit_dec (c1:¬rm.d<x.dep) (c2:¬rm.n<(t.n:Int)+1) (c3:¬(s.get x.d).2≠0) (c4:x.dir=true) (c5:decE (s.get x.d).1≠0):visit s rm x t=(decE (s.get x.d).1,[],t.node.meet x):=by
 rw[visit,if_neg c1,if_neg c2,if_neg c3,if_pos c4,if_pos c5]
theorem visit_dir (c1:¬rm.d<x.dep) (c2:¬rm.n<(t.n:Int)+1) (c3:¬(s.get x.d).2≠0) (c4:x.dir=true) (c5:decE (s.get x.d).1=0):visit s rm x t=(0,kids x (s.get x.d).1,t.node.meet x):=by
 rw[visit,if_neg c1,if_neg c2,if_neg c3,if_pos c4,if_neg (by rw[c5];simp)]
end
section
variable{S:List Nat}{L M D T X LO Z A B:OL}{a b c p q r:Nat×Obj}{w w':World}
theorem Step.init (h:Step S (T++(p::r::q::b::a::X)) w w'):Step S (b::(T++([p,q,r]++X))) w w':=Step.tail (p:=a) (h.perm (by
 have h1:(p::r::q::b::a::X).Perm ([a,b]++([p,q,r]++X)):=
  ((List.Perm.swap q r _).cons p).trans ((perm_append_comm_assoc [p,q,r] [b,a] X).trans (List.Perm.swap a b _))
 exact(h1.append_left T).trans (perm_append_comm_assoc T [a,b] _)))
theorem Step.in6 (h:Step S (a::p::q::r::b::c::(LO++X)) w w'):Step S (LO++(a::p::q::r::b::c::X)) w w':=h.perm (perm_append_comm_assoc [a,p,q,r,b,c] LO X)
theorem Step.out6 (h:Step S (LO++(a::p::q::r::b::c::X)) w w'):Step S (p::q::r::b::c::(LO++X)) w w':=Step.tail (p:=a) (h.perm (perm_append_comm_assoc LO [a,p,q,r,b,c] X))
theorem Step.pick (h:Step S (a::(T++(c::Z))) w w'):Step S (c::(a::(T++Z))) w w':=h.perm (by
 have h1:(a::(T++(c::Z))).Perm (a::c::(T++Z)):=perm_middle.cons a
 exact h1.trans (List.Perm.swap c a _))
theorem Step.partsIn (h:Step S (b::(T++(M++(Z++(L++(A++(B++D))))))) w w'):Step S (b::(T++(M++(L++((Z++(A++B))++D))))) w w':=h.perm (by
 have e:L++((Z++(A++B))++D)=L++(Z++(A++(B++D))):=by simp[append_assoc]
 rw[e]
 exact(((perm_append_comm_assoc Z L _).append_left M).append_left T).cons b)
theorem Step.in2 (h:Step S (a::b::(Z++X)) w w'):Step S (Z++(a::b::X)) w w':=h.perm (perm_append_comm_assoc [a,b] Z X)
theorem Step.out2 (h:Step S (Z++(a::b::X)) w w'):Step S (Z++X) w w':=Step.tail (p:=b) (Step.tail (p:=a) (h.perm (perm_append_comm_assoc Z [a,b] X)))
end
theorem run_notV{P:Program}{f:Slots}{w:World}{d:Option Tmp}{T ty:TypeId}{pos:String}{af:Array Edge}{x:Operand}{b c:Bool} (hb:b=c) (hx:ev f x=.bool b:=by rfl):(execOp (ev f) ⟨d,.unOp .not T x,ty,pos,af,none⟩).run P w=.ok (.value (.bool (!c))) w:=by
 subst hb
 exact run_not hx
theorem mem5{a b c d e p:Nat×Obj}{A B C X:OL} (h:p∈X):p∈a::b::c::d::e::(A++(B++(C++X))):=by simp[h]
abbrev STK:=209
abbrev STD:=212
theorem FwPost.err{bp:Nat}{s:AS}{r:Int×WS}{e:Int}{u:WS}{D D' L L':OL}{w0 w':World}{ed:Ending} (hre:r=(e,u)) (hne:e≠0) (hed:ed=.returned (.tuple #[.pointer none,.int .i64 e])) (hP:PRep bp (s.gotN u.g) (D'++D) L') (h:Step (L.map (·.1)) (L'++([]++D')) w0 w'):FwPost bp s r D L w0 ed w':=by
 subst hre
 exact⟨_,L',D',[],hed,hP,fun h=>absurd h hne,fun _=>rfl,h⟩
theorem FwPost.ok{bp bm:Nat}{s:AS}{r:Int×WS}{u:WS}{D D' L L' M:OL}{w0 w':World}{ed:Ending} (hre:r=(0,u)) (hed:ed=.returned (.tuple #[pt bm,.int .i64 0])) (hP:PRep bp (s.gotN u.g) (D'++D) L') (hM:MetRep bm s u.m (D'++D) M) (h:Step (L.map (·.1)) (L'++(M++D')) w0 w'):FwPost bp s r D L w0 ed w':=by
 subst hre
 exact⟨_,L',D',M,hed,hP,fun _=>⟨bm,rfl,hM⟩,fun h=>absurd rfl h,h⟩
section
variable{bp N:Nat}{s:AS}{D L:OL}{d:U8}{rn rd rb:Int}{w0:World}
set_option maxHeartbeats 16000000 in
theorem fwalk_spec (hR:PRep bp s D L) (ok:s.Ok) (hfew:s.Few N) (hN:N<1000000000000) (hd:d.length=32) (hrm:(rmOf rn rd rb).Ok) (hw:Lives (L++D) w0) :
  CP 64 #[pt bp,.agg (u8s d).toArray,.agg #[.int .i64 rn,.int .i64 rd,.int .i64 rb]] w0 (FwPost bp s (runs s (rmOf rn rd rb) [rootS d] ws0) D L w0):=by
 have ob:∃r,runs s (rmOf rn rd rb) [rootS d] ws0=r:=⟨_,rfl⟩
 obtain⟨r,hr⟩:=ob
 rw[hr]
 have hdl:(u8s d).length=32:=by rw[u8s,length_map,hd]
 have hs:Step (List.map (·.1) (L++D)) (L++D) w0 w0:=hw
 have ob:∃rm,rm=rmOf rn rd rb:=⟨_,rfl⟩
 obtain⟨rm,hrme⟩:=ob
 rw[←hrme] at hr hrm
 have hrn:=hrm.n
 have hrd:=hrm.d
 have hrb:=hrm.b
 refine calls (n:=161) Tryz.func64 rfl rfl rfl ?_
 refine sr<|WL.box (cs:=u8s d) rfl rfl rfl hs (fun b4 w hs=>?_)
 refine WL.box (cs:=[.int .i64 rn,.int .i64 rd,.int .i64 rb]) rfl rfl rfl hs (fun b5 w hs=>?_)
 refine wA<|wA<|wZ<|CW.scope ?_
 refine sr<|WL.makeMapD rfl hs (fun b23 w hs=>?_)
 refine WL.makeMapD rfl hs (fun b24 w hs=>?_)
 refine wV (run_build rfl (bld_met _ _ _))<|WL.box (cs:=[.slice none 0 0,.map (some b23),.map (some b24)]) rfl rfl rfl hs (fun b26 w hs=>?_)
 refine wA<|wZ<|sr<|WL.alloc ty209 rfl hs (fun b9 w hs=>?_)
 refine wZ ?_
 have hS0:Stk STK STD 34 b9 [] [(b9,blk STK [.slice none 0 0])]:=⟨(fun c hc=>by cases hc),_,[],rfl,OwnSl.nil _ _⟩
 refine sr<|wR ty44 rfl (by assumption) hs.a5<|wV (run_build rfl (bld_root hd _))<|wE rfl (run_call en116 rfl rfl) (pushstanding_spec hS0 (stdC_len (x:=rootS d) hd) (stdC_c1 _) (by simp) (Lives.of (L1:=[_]) hs)) ?_
 rintro e w ⟨T1,rfl,hS1,hq⟩
 refine⟨_,rfl,?_⟩
 replace hs:=Step.init (Step.call (L1:=[_]) hs hq)
 refine wZ<|sr<|wA<|wA<|wA<|wZ<|sr<|wF 0 u30 rfl ty3 rfl<|wl ty3 rfl (hs.c0 rfl)<|wV (run_minZ rfl rfl)<|wF 1 u30 rfl ty3 rfl<|wl ty3 rfl (hs.c0 rfl)<|wV (run_minZ rfl rfl)<|wF 2 u30 rfl ty3 rfl<|wl ty3 rfl (hs.c0 rfl)<|wV (run_minZ rfl rfl)<|wV (run_build rfl (bld_room _ _ _ _)) ?_
 refine WL.storeAll ty30 rfl rfl ((rfl)) ((Cells1.of_all rfl)) hs (by rfl) (fun w hs=>?_)
 refine wZ ?_
 replace hs:Step (List.map (·.1) (L++D)) ((b5,blk 30 (roomC rm))::(T1++([(b26,blk 132 [.slice none 0 0,.map (some b23),.map (some b24)]),(b23,mapObj [] 0),(b24,mapObj [] 0)]++(L++([]++D))))) w0 w:=by rw[hrme];exact hs
 have hM0:MetRep b26 s ws0.m ([]++D) [(b26,blk 132 [.slice none 0 0,.map (some b23),.map (some b24)]),(b23,mapObj [] 0),(b24,mapObj [] 0)]:=
  ⟨_,[],b23,[],0,b24,[],0,rfl,OwnSl.nil _ _,⟨(fun p hp=>by cases hp),fun d=>by rw[valD_nil];simp[ws0,ordM]⟩,⟨(fun p hp=>by cases hp),fun d=>by rw[valD_nil];simp[ws0]⟩⟩
 refine cq<|CW.label<|cq<|cB<|CW.loop (fun z f w'=>∃todo t T M L1 D1,runs s rm todo t=r∧z=65537 - t.n∧t.Good 0∧todo.length≤1+t.n*1024∧(∀x∈todo,x.d.length=32∧x.dep≤33)∧Stk STK STD 34 b9 (todo.map stdC) T∧MetRep b26 s t.m (D1++D) M∧PRep bp (s.gotN t.g) (D1++D) L1∧Step (List.map (·.1) (L++D)) ((b5,blk 30 (roomC rm))::(T++(M++(L1++(D1++D))))) w0 w'∧Holds f [(0,pt bp),(5,pt b5),(8,pt b26),(9,pt b9),(10,.int .i64 (t.n:Nat)),(11,.int .i64 (t.b:Nat))]) (m:=65537) ?_ ?_
 ·exact⟨[rootS d],ws0,T1,_,L,[],hr,rfl,ws0_good,by simp,fun x hx=>by obtain rfl:=mem_singleton.1 hx;exact⟨hd,Nat.zero_le _⟩,hS1,hM0,hR,hs,rfl,rfl,rfl,rfl,rfl,rfl,trivial⟩
 clear hs hr hS1 hM0
 rintro z f w ⟨todo,t,T,M,L1,D1,hr,rfl,hg,hlen,htd,hS,hM,hP,hs,hf⟩
 have ob:=hf.chain
 obtain⟨g,rfl⟩:=ob
 have hn1:=hg.n
 have hb1:=hg.b
 have hg1:=hg.g
 have hm1:=hg.m
 cases todo with
 | nil=>
  have hre:(0,t)=r:=hr
  refine cB<|sr<|wE rfl (run_call en117 rfl rfl) (popstanding_nil hS (Lives.of (L1:=T) hs.tail)) ?_
  rintro e w ⟨z,rfl,hz,hz1,hq⟩
  refine⟨_,rfl,?_⟩
  replace hs:=hs.callE hq
  refine wm<|wx rfl rfl<|wx rfl rfl<|WL.alloc ty212 rfl hs (fun b13 w hs=>?_)
  refine WL.storeAll ty212 rfl rfl ((hz)) ((hz1)) hs (by rfl) (fun w hs=>?_)
  refine wA<|wZ<|cq<|sr<|wm<|wN rfl<|wZ<|CW.cond rfl (fun h=>?_) (fun h=>?_)
  ·refine sr<|wm<|wA<|wA<|wZ<|CW.ret ?_
   refine fin_ret2 rfl ?_
   exact FwPost.ok hre.symm rfl hP hM (Step.fin hw (Step.dropL (L1:=T) hs.tail.tail))
  ·cases h
 | cons x rest=>
  have ob:=htd x (by simp)
  obtain⟨hx32,hxd⟩:=ob
  have hxl:(u8s x.d).length=32:=by rw[u8s,length_map,hx32]
  have hgl:=get_len ok x.d
  have hsl:=stdC_len hx32
  have h32:(stdC x)[32]?=some (.bool x.dir):=by rw[stdC,getElem?_append_right (by omega),hxl];rfl
  have h33:(stdC x)[33]?=some (.int .i64 (x.dep:Nat)):=by rw[stdC,getElem?_append_right (by omega),hxl];rfl
  rw[length_cons] at hlen
  rw[runs_cons s hrd.2] at hr
  have hr1:∀{e:Int}{u:WS},visit s rm x (push x t)=(e,[],u)→e≠0→r=(e,u):=fun {e u} h he=>by rw[h,if_pos he] at hr;exact hr.symm
  have hpn:=push_n x t
  have hpb:=push_b x t
  refine cB<|sr<|wE rfl (run_call en117 rfl rfl) (popstanding_spec (c:=stdC x) (l:=rest.map stdC) hS (by rw[length_map];omega) (Lives.of (L1:=T) hs.tail)) ?_
  rintro e w ⟨T2,rfl,hS2,hq⟩
  refine⟨_,rfl,?_⟩
  replace hs:=Own.set (A:=[_]) hs hq
  refine wm<|wx rfl rfl<|wx rfl rfl<|WL.alloc ty212 rfl hs (fun b13 w hs=>?_)
  refine WL.storeAll ty212 rfl rfl ((hsl)) ((stdC_c1 x)) hs (by rfl) (fun w hs=>?_)
  refine wA<|wZ<|cq<|sr<|wm<|wN rfl<|wZ<|CW.cond rfl (fun h=>?_) (fun h=>?_)
  ·cases h
  refine ck<|sr<|wm<|wP ((t.n+1:Nat):Int)<|wA<|wZ<|sr<|wA<|wA<|wZ ?_
  by_cases c1:rm.d<x.dep
  ·have hre:=hr1 (visit_deep c1) (by decide)
   refine cq<|cB<|sr<|wF 33 u212 rfl ty3 rfl<|wl ty3 rfl (hs.c0 h33)<|wF 1 u30 rfl ty3 rfl<|wl ty3 rfl (hs.c1 (v:=.int .i64 rm.d) rfl)<|xT<|wA<|wZ<|CW.cond rfl (fun h=>?_) (fun h=>?_)
   ·refine sr<|wA<|wZ<|CW.exit<|sr<|wm<|wA<|wA<|wZ<|CW.ret ?_
    refine fin_ret2 rfl ?_
    exact FwPost.err hre (by decide) rfl (by show PRep bp (s.gotN (push x t).g) _ _;rw[push_g];exact hP) (Step.fin (M:=[]) hw (Step.dropL (Step.dropL hs.tail.tail)))
   ·cases h
  refine cq<|cB<|sr<|wF 33 u212 rfl ty3 rfl<|wl ty3 rfl (hs.c0 h33)<|wF 1 u30 rfl ty3 rfl<|wl ty3 rfl (hs.c1 (v:=.int .i64 rm.d) rfl)<|xF<|wA<|wZ<|CW.cond rfl (fun h=>?_) (fun h=>?_)
  ·cases h
  by_cases c2:rm.n<((push x t).n:Int)+1
  ·have hre:=hr1 (visit_nodes c1 c2) (by decide)
   rw[hpn] at c2
   refine sr<|wm<|wF 0 u30 rfl ty3 rfl<|wl ty3 rfl (hs.c1 (v:=.int .i64 rm.n) rfl)<|xT<|wA<|wZ<|CW.cond rfl (fun h=>?_) (fun h=>?_)
   ·refine sr<|wA<|wZ<|CW.exit<|sr<|wm<|wA<|wA<|wZ<|CW.ret ?_
    refine fin_ret2 rfl ?_
    exact FwPost.err hre (by decide) rfl (by show PRep bp (s.gotN (push x t).g) _ _;rw[push_g];exact hP) (Step.fin (M:=[]) hw (Step.dropL (Step.dropL hs.tail.tail)))
   ·cases h
  have c2':=c2
  rw[hpn] at c2'
  refine sr<|wm<|wF 0 u30 rfl ty3 rfl<|wl ty3 rfl (hs.c1 (v:=.int .i64 rm.n) rfl)<|xF<|wA<|wZ<|CW.cond rfl (fun h=>?_) (fun h=>?_)
  ·cases h
  replace hs:=Step.as2 (T:=T2) (M:=M) hs
  refine ck<|cq<|sr<|wm<|wF 0 u212 rfl ty44 rfl<|wR ty44 rfl hxl hs.a0.left<|wE rfl (run_call en76 rfl rfl) (get_abs hP (ok.gotN _) (hfew.gotN _) (by omega) (Own.live (A:=_::_::(T2++M)) hs) hx32) ?_
  rintro e w ⟨v,Lv,L2,rfl,hvy,hP2,hq⟩
  refine⟨_,rfl,?_⟩
  replace hs:=Own.put (A:=_::_::(T2++M)) hs hq
  refine wm<|wx rfl rfl<|wx rfl rfl<|wA<|wA<|wZ ?_
  by_cases c3:(s.get x.d).2≠0
  ·have hre:=hr1 (visit_get c1 c2 c3) (by omega)
   refine sr<|wm<|wV (run_bT (run_neq rfl rfl) (by exact fun h=>c3 (Int.ofNat.inj h)))<|wZ<|CW.cond rfl (fun h=>?_) (fun h=>?_)
   ·refine CW.exit<|sr<|wm<|wA<|wA<|wZ<|CW.ret ?_
    refine fin_ret2 rfl ?_
    exact FwPost.err (D':=Lv++D1) hre (fun h=>c3 (Int.ofNat.inj h)) rfl (by show PRep bp (s.gotN ((push x t).g+1)) _ _;rw[push_g,append_assoc];exact hP2.mono mem_right) (Step.fin (M:=[]) hw (by rw[append_assoc];exact Step.dropL (L1:=T2++M) hs.tail.tail))
   ·cases h
  have c30:(s.get x.d).2=0:=by simpa using c3
  refine sr<|wm<|wV (run_bF (run_neq rfl rfl) (by exact fun h=>h (congrArg (fun n:Nat=>(n:Int)) c30)))<|wZ<|CW.cond rfl (fun h=>?_) (fun h=>?_)
  ·cases h
  have ob:=hvy.form
  obtain⟨va,vc,rfl⟩:=ob
  have hHl:Held (Lv++(D1++D)) (.slice va (s.get x.d).1.length vc) (s.get x.d).1:=⟨Lv,hvy,fun p hp=>mem_append_left _ hp⟩
  have hP3:PRep bp (s.gotN (t.g+1)) (Lv++(D1++D)) L2:=hP2.mono mem_right
  have hM3:=hM.mono (D':=Lv++(D1++D)) mem_right
  obtain⟨vO,LO,q1,M1,k1,q2,M2,k2,rfl,hO,hB,hPm⟩:=hM3
  have ob:=hO.form
  obtain⟨oa,oc,rfl⟩:=ob
  have hol:=ordM_len t.m
  replace hs:=Step.toMet hs
  refine ck<|CW.seqM (fun f w=>∃vO' LO',OwnSl 44 32 vO' (ordM (t.m++[(x.d,x.dir)])).length (digsL (ordM (t.m++[(x.d,x.dir)]))) LO'∧Step (List.map (·.1) (L++D)) ((b26,blk 132 [vO',.map (some q1),.map (some q2)])::(q1,mapObj M1 k1)::(q2,mapObj M2 k2)::(b13,blk STD (stdC x))::(b5,blk 30 (roomC rm))::(LO'++(T2++(L2++(Lv++(D1++D)))))) w0 w∧Holds f [(0,pt bp),(5,pt b5),(8,pt b26),(9,pt b9),(10,.int .i64 ((t.n+1:Nat):Int)),(11,.int .i64 (t.b:Nat)),(13,pt b13),(15,.slice va (s.get x.d).1.length vc)]) ?_ ?_
  ·have hbv:=hB.val x.d
   by_cases hk:x.d∈ordM t.m
   ·have hks:(findD x.d M1 0).isSome=true:=by
     rw[valD_isSome]
     cases hv:valD x.d M1 with
     | none=>rw[hv] at hbv;exact absurd hk hbv
     | some u=>rfl
    refine cq<|CW.quiet mixedP (by kernel_rfl) hs ?_
    refine qm<|qn rfl<|qF 1 u132 rfl ty129 rfl<|qL ty129 rfl (fun w hs=>hs.c0 (v:=.map (some q1)) rfl)<|qF 0 u212 rfl ty44 rfl<|qV (fun w hs=>run_loadN ty44 rfl hxl hs.a3.left)<|qV (fun w hs=>run_lookupE u129 (zBytes _) hB.keys hx32 rfl hks rfl rfl hs.tail.hd)<|qm<|qx rfl rfl<|qx rfl rfl<|qA<|qA<|QL.nil (fun w hs=>?_)
    refine sr<|wm<|wN rfl<|wZ<|CW.cond rfl (fun h=>?_) (fun h=>?_)
    ·cases h
    refine ck<|⟨rfl,_,LO,?_,hs,rfl,rfl,rfl,rfl,rfl,rfl,rfl,rfl,trivial⟩
    rw[ordM_snoc,if_pos hk];exact hO
   ·have hks:(findD x.d M1 0).isSome=false:=by
     rw[valD_isSome]
     cases hv:valD x.d M1 with
     | none=>rfl
     | some u=>rw[hv] at hbv;exact absurd hbv.1 hk
    refine cq<|CW.quiet mixedP (by kernel_rfl) hs ?_
    refine qm<|qn rfl<|qF 1 u132 rfl ty129 rfl<|qL ty129 rfl (fun w hs=>hs.c0 (v:=.map (some q1)) rfl)<|qF 0 u212 rfl ty44 rfl<|qV (fun w hs=>run_loadN ty44 rfl hxl hs.a3.left)<|qV (fun w hs=>run_lookupE u129 (zBytes _) hB.keys hx32 rfl hks rfl rfl hs.tail.hd)<|qm<|qx rfl rfl<|qx rfl rfl<|qA<|qA<|QL.nil (fun w hs=>?_)
    refine sr<|wm<|wN rfl<|wZ<|CW.cond rfl (fun h=>?_) (fun h=>?_)
    ·skip
     refine CW.any (A:=fun w=>Step (List.map (·.1) (L++D)) [(b13,blk STD (stdC x))] w0 w) (C:=fun w=>Step (List.map (·.1) (L++D)) [(b26,blk 132 [.slice oa (ordM t.m).length oc,.map (some q1),.map (some q2)]),(q1,mapObj M1 k1),(q2,mapObj M2 k2),(b13,blk STD (stdC x))] w0 w) 11 12 mixedP rfl ?_
     replace hs:=hs.drew
     refine aM 0 rfl<|aM 1 rfl<|aN 2 rfl rfl<|aF 3 rfl 0 u132 rfl ty35 rfl<|aL 4 rfl ty35 rfl (fun w hs=>hs.c0 rfl)<|aF 5 rfl 0 u212 rfl ty44 rfl<|aV 6 rfl (fun w hs=>run_loadN ty44 rfl hxl hs.a3.left)<|AL.one 7 (by kernel_rfl) rfl (by exact Step.dropR (L1:=[(b13,_)]) hs.tail.tail.tail) (by exact Step.dropR (L1:=[_,_,_,_]) hs) ?_
     refine WL.buildSlice (cs:=u8s x.d) u35 ty44 rfl (by decide) rfl (filled1 hxl rfl) rfl hs (fun b88 w hs=>?_)
     have hsl88:Sl w 32 (.slice (some ⟨b88,0,none⟩) 1 1) 1 (u8s x.d):=.own1 hs (by rw[hxl])
     replace hs:=Step.in6 hs
     refine wZ<|⟨rfl,?_⟩
     refine AL.one 8 (by kernel_rfl) rfl (by exact Step.dropR (L1:=[(b13,_)]) (hs.dropL (L1:=LO)).tail.tail.tail.tail) (by exact Step.dropR (L1:=[_,_,_,_]) (hs.dropL (L1:=LO)).tail) ?_
     refine WL.append u35 u35 ty44 rfl (by decide) rfl rfl (hO) (hs) (hsl88) (Cells1.u8s _) (by omega) rfl (fun v89 Lv89 w hv89 hs=>?_)
     replace hs:=Step.out6 hs
     refine wZ<|⟨rfl,?_⟩
     refine AL.valA 9 rfl (by kernel_rfl) rfl (fun w hs=>run_nilCheck rfl) ?_
     refine aF 10 rfl 0 u132 rfl ty35 rfl<|AL.one 11 (by kernel_rfl) rfl (by exact Step.dropR (L1:=[(b13,_)]) hs.tail.tail.tail) (by exact Step.dropR (L1:=[_,_,_,_]) hs) ?_
     refine ws1 ty35 rfl rfl (hv89.one) hs (fun w hs=>?_)
     refine wZ<|⟨rfl,?_⟩
     refine AL.relax (by kernel_rfl) ?_
     refine AL.end (by kernel_rfl) (by exact Step.dropR (L1:=[(b13,_)]) hs.tail.tail.tail) (trivial) ?_
     replace hs:Step (List.map (·.1) (L++D)) ((b26,blk 132 [v89,.map (some q1),.map (some q2)])::(q1,mapObj M1 k1)::(q2,mapObj M2 k2)::(b13,blk STD (stdC x))::(b5,blk 30 (roomC rm))::(Lv89++(T2++(L2++(Lv++(D1++D)))))) w0 w:=hs
     have hO':OwnSl 44 32 v89 (ordM (t.m++[(x.d,x.dir)])).length (digsL (ordM (t.m++[(x.d,x.dir)]))) Lv89:=by
      rw[ordM_snoc,if_neg hk,length_append,digsL_snoc];exact hv89
     exact⟨rfl,v89,Lv89,hO',hs,rfl,rfl,rfl,rfl,rfl,rfl,rfl,rfl,trivial⟩
    ·cases h
  clear hs
  rintro f w ⟨vO',LO',hO',hs,hf⟩
  have ob:=hf.chain
  obtain⟨g,rfl⟩:=ob
  have hB':MapB s (Lv++(D1++D)) (t.m++[(x.d,x.dir)]) (putM x.d (.slice va (s.get x.d).1.length vc) k1 M1):=hB.put hx32 hHl k1
  refine cq<|CW.quietT (l1:=[_,_,_,_,_,_,_]) (l2:=[_]) 7 rfl mixedP rfl (by kernel_rfl) hs ?_
  refine qm<|qn rfl<|qF 1 u132 rfl ty129 rfl<|qL ty129 rfl (fun w hs=>hs.c0 (v:=.map (some q1)) rfl)<|qF 0 u212 rfl ty44 rfl<|qV (fun w hs=>run_loadN ty44 rfl hxl hs.a3.left)<|qm<|QL.nil (fun w hs=>?_)
  refine WL.mapPut u129 rfl rfl rfl hB.keys hx32 hs.swap (fun w hs=>?_)
  replace hs:=hs.swap
  refine wZ ?_
  replace hs:Step (List.map (·.1) (L++D)) ((b26,blk 132 [vO',.map (some q1),.map (some q2)])::(q1,mapObj (putM x.d (.slice va (s.get x.d).1.length vc) k1 M1) (putC x.d k1 M1))::(q2,mapObj M2 k2)::(b13,blk STD (stdC x))::(b5,blk 30 (roomC rm))::(LO'++(T2++(L2++(Lv++(D1++D)))))) w0 w:=hs
  by_cases hxb:x.dir=false
  ·have hpf:=push_file hxb t
   rw[hpf] at hr hr1 c2
   refine cq<|sr<|wF 32 u212 rfl ty4 rfl<|wl ty4 rfl (hs.c3 h32)<|wV (run_notV hxb)<|wZ<|CW.cond rfl (fun h=>?_) (fun h=>?_)
   ·refine cq<|sr<|wm<|wm<|wL u76 rfl<|wP ((t.b+(s.get x.d).1.length:Nat):Int)<|wA<|wZ ?_
    by_cases c5:rm.b<(t.b:Int)+(s.get x.d).1.length
    ·have hre:=hr1 (visit_bytes c1 c2 c3 hxb c5) (by decide)
     refine sr<|wm<|wF 2 u30 rfl ty3 rfl<|wl ty3 rfl (hs.c4 (v:=.int .i64 rm.b) rfl)<|xT<|wZ<|CW.cond rfl (fun h=>?_) (fun h=>?_)
     ·refine sr<|wA<|wZ<|CW.exit<|sr<|wm<|wA<|wA<|wZ<|CW.ret ?_
      refine fin_ret2 rfl ?_
      exact FwPost.err (D':=Lv++D1) hre (by decide) rfl (by show PRep bp (s.gotN (t.g+1)) _ _;rw[append_assoc];exact hP3) (Step.fin (M:=[]) hw (by rw[append_assoc];exact Step.dropL (Step.dropL (L1:=[_,_,_,_,_]++LO') hs)))
     ·cases h
    have hvf:=visit_file (t:=t) c1 c2 c3 hxb c5
    rw[hvf] at hr
    have hg2:=visit_good (s:=s) (x:=x) (t:=t) hrm (by rw[kOf,if_neg (by simp[hxb])];exact hg) (by rw[hvf])
    rw[hvf] at hg2
    refine sr<|wm<|wF 2 u30 rfl ty3 rfl<|wl ty3 rfl (hs.c4 (v:=.int .i64 rm.b) rfl)<|xF<|wZ<|CW.cond rfl (fun h=>?_) (fun h=>?_)
    ·cases h
    have hs2:=Step.ofMet hs
    have hM2:MetRep b26 s (t.m++[(x.d,x.dir)]) (Lv++(D1++D)) ((b26,blk 132 [vO',.map (some q1),.map (some q2)])::(q1,mapObj (putM x.d (.slice va (s.get x.d).1.length vc) k1 M1) (putC x.d k1 M1))::(q2,mapObj M2 k2)::LO'):=⟨vO',LO',q1,_,_,q2,M2,k2,rfl,hO',hB',by rw[hxb];exact hPm.file⟩
    rw[←append_assoc Lv D1 D] at hs2 hP3 hM2
    refine ck<|CW.exit<|(show _∧_ from⟨rfl,_,?_,rest,((t.node.meet x).byte (s.get x.d).1.length).item ⟨x.p,false,(s.get x.d).1⟩,T2,_,L2,Lv++D1,hr,rfl,hg2,?_,fun y hy=>htd y (by simp[hy]),hS2,hM2,hP3,hs2,rfl,rfl,rfl,rfl,rfl,rfl,trivial⟩)
    ·show 65537 - (t.n+1)<65537 - t.n;omega
    ·show rest.length≤1+(t.n+1)*1024;omega
   ·cases h
  have hxt:x.dir=true:=by simpa using hxb
  refine cq<|sr<|wF 32 u212 rfl ty4 rfl<|wl ty4 rfl (hs.c3 h32)<|wV (run_notV hxt)<|wZ<|CW.cond rfl (fun h=>?_) (fun h=>?_)
  ·cases h
  refine ck<|cq<|sr<|wm<|wE rfl (run_call en78 rfl rfl) (decode_at _ (hHl.sl fun p hp=>hs.has p (mem5 (A:=LO') (B:=T2) (C:=L2) hp)) (by omega)) ?_
  rintro e w ⟨u,Le,rfl,hu,hoks,hle,hq⟩
  refine⟨_,rfl,?_⟩
  replace hs:=Step.call0 hs hq
  refine wm<|wx rfl rfl<|wx rfl rfl<|wA<|wA<|wZ ?_
  by_cases hde:decE (s.get x.d).1≠0
  ·have hre:=hr1 (visit_dec c1 c2 c3 hxt hde) hde
   refine sr<|wm<|wV (run_bT (run_neq rfl rfl) (by exact hde))<|wZ<|CW.cond rfl (fun h=>?_) (fun h=>?_)
   ·refine CW.exit<|sr<|wm<|wA<|wA<|wZ<|CW.ret ?_
    refine fin_ret2 rfl ?_
    exact FwPost.err (D':=Lv++D1) hre hde rfl (by show PRep bp (s.gotN ((push x t).g+1)) _ _;rw[push_g,append_assoc];exact hP3) (Step.fin (M:=[]) hw (by rw[append_assoc];exact Step.dropL (Step.dropL (L1:=[_,_,_,_,_]++LO') (Step.dropL hs))))
   ·cases h
  have hde0:decE (s.get x.d).1=0:=by simpa using hde
  have hvd:=visit_dir (t:=push x t) c1 c2 c3 hxt hde0
  rw[hvd] at hr
  have hg2:=visit_good (s:=s) (x:=x) (t:=push x t) hrm (push_good x hg) (by rw[hvd])
  rw[hvd] at hg2
  replace hr:runs s rm (kids x (s.get x.d).1++rest) ((push x t).node.meet x)=r:=hr
  refine sr<|wm<|wV (run_bF (run_neq rfl rfl) (by exact hde))<|wZ<|CW.cond rfl (fun h=>?_) (fun h=>?_)
  ·cases h
  refine ck<|sr<|WL.buildSlice (cs:=[]) u35 ty44 rfl (by decide) rfl (by rfl) rfl hs (fun b117 w hs=>?_)
  refine wA<|wZ ?_
  have ob:∃l,decL (s.get x.d).1=l:=⟨_,rfl⟩
  obtain⟨l,hll⟩:=ob
  have hk:kids x (s.get x.d).1=l.map (kidOf x):=by rw[kids,hll]
  rw[hk] at hr hvd
  rw[hll] at hu hoks hle
  have ob:=hu.form
  obtain⟨ua,uc,rfl⟩:=ob
  refine cq<|sr<|wm<|wL u116 rfl<|wS (((l.length:Nat):Int) - 1)<|wA<|wZ ?_
  have heq:(push x t).node.meet x=⟨t.n+1,t.b,t.g+1,t.m++[(x.d,x.dir)],(push x t).l⟩:=by unfold push;split <;> rfl
  rw[heq] at hr hg2
  have ob:∃Z0,Z0=(b26,blk 132 [vO',.map (some q1),.map (some q2)])::(q1,mapObj (putM x.d (.slice va (s.get x.d).1.length vc) k1 M1) (putC x.d k1 M1))::(q2,mapObj M2 k2)::(b5,blk 30 (roomC rm))::(LO'++(L2++(Lv++(D1++D)))):=⟨_,rfl⟩
  obtain⟨Z0,hZ0⟩:=ob
  have hs1:=Step.toStk (Y:=_::Le) hs
  rw[←hZ0] at hs1
  clear hs
  refine cB<|CW.loop (fun m f w'=>∃k z T3,k≤l.length∧m=k∧z=(k:Int) - 1∧Stk STK STD 34 b9 ((((l.drop k).map (kidOf x))++rest).map stdC) T3∧Step (List.map (·.1) (L++D)) ((b13,blk STD (stdC x))::(T3++(((b117,blk 44 [])::Le)++Z0))) w0 w'∧Holds f [(0,pt bp),(5,pt b5),(8,pt b26),(9,pt b9),(10,.int .i64 ((t.n+1:Nat):Int)),(11,.int .i64 (t.b:Nat)),(13,pt b13),(16,.slice ua l.length uc),(19,.slice (some ⟨b117,0,none⟩) 0 0),(20,.int .i64 z)]) (m:=l.length) ?_ ?_
  ·exact⟨l.length,_,T2,Nat.le_refl _,rfl,rfl,by rw[drop_length];exact hS2,hs1,rfl,rfl,rfl,rfl,rfl,rfl,rfl,rfl,rfl,rfl,trivial⟩
  clear hs1
  rintro m f w ⟨k,z,T3,hkl,rfl,hz,hS3,hs,hf⟩
  by_cases hk0:m=0
  ·have ob:=hf.chain
   obtain⟨g,rfl⟩:=ob
   refine cq<|sr<|wm<|jF<|wZ<|CW.cond rfl (fun h=>?_) (fun h=>?_)
   ·cases h
   replace hs:=Step.pick hs
   refine CW.exit<|cq<|sr<|wm<|wL u116 rfl<|wm<|wZ ?_
   rw[hk0,drop_zero] at hS3
   refine cB<|CW.loop (fun m f w'=>∃i vp LP,i≤l.length∧m=l.length - i∧OwnSl 44 32 vp i (digsL ((l.take i).map (·.dig))) LP∧Step (List.map (·.1) (L++D)) (LP++((b13,blk STD (stdC x))::(T3++(Le++Z0)))) w0 w'∧Holds f [(0,pt bp),(5,pt b5),(8,pt b26),(9,pt b9),(10,.int .i64 ((t.n+1:Nat):Int)),(11,.int .i64 (t.b:Nat)),(13,pt b13),(19,vp),(141,.slice ua l.length uc),(142,.int .i64 (l.length:Nat)),(143,.int .i64 (i:Nat))]) (m:=l.length) ?_ ?_
   ·exact⟨0,_,[(b117,blk 44 [])],Nat.zero_le _,rfl,OwnSl.mk (b:=b117) (xs:=[]) (k:=0) rfl,hs,rfl,rfl,rfl,rfl,rfl,rfl,rfl,rfl,rfl,rfl,rfl,trivial⟩
   clear hs
   rintro m f w ⟨i,vp,LP,hil,rfl,hvp,hs,hf⟩
   have ob:=hf.chain
   obtain⟨g,rfl⟩:=ob
   by_cases hlt:i<l.length
   ·have ob:=hu.some1 (by omega)
    obtain⟨bu,cu,more,hu1,hu2,hu3⟩:=ob
    cases hu1
    subst hu2
    have ob:∃e,l[i]=e:=⟨_,rfl⟩
    obtain⟨e,he⟩:=ob
    have heo:=hoks e (he▸getElem_mem hlt)
    have hel:(u8s e.dig).length=32:=by rw[u8s,length_map,heo.1]
    have hec:=Ent.cells_len heo
    have hent:At w bu (0+i*34) e.cells:=by
     have h2:=(At.of_blk (hs.has (bu,blk 115 (rows l++more)) (by simp))).left.ent hoks hlt
     rw[he] at h2;exact h2
    refine sr<|lT<|wZ<|cq<|CW.cond rfl (fun h=>?_) (fun h=>?_)
    ·refine ck<|cq<|cB<|sr<|wI u116 ty115 rfl rfl<|wR ty115 rfl hec hent<|WL.alloc ty115 rfl hs (fun b22 w hs=>?_)
     refine WL.storeAll ty115 rfl rfl ((hec)) ((e.cells1)) hs (by rfl) (fun w hs=>?_)
     refine wZ<|cr<|wm<|wF 2 u115 rfl ty44 rfl<|wR ty44 rfl hel (hs.a0.drop 2)<|WL.buildSlice (cs:=u8s e.dig) u35 ty44 rfl (by decide) rfl (filled1 hel rfl) rfl hs (fun b150 w hs=>?_)
     have hsl150:Sl w 32 (.slice (some ⟨b150,0,none⟩) 1 1) 1 (u8s e.dig):=.own1 hs (by rw[hel])
     replace hs:=Step.in2 hs
     refine WL.append u35 u35 ty44 rfl (by decide) rfl rfl (hvp) (hs) (hsl150) (Cells1.u8s _) (by omega) rfl (fun v151 Lv151 w hv151 hs=>?_)
     replace hs:=Step.out2 hs
     refine wA<|wZ<|cr<|wP ((i+1:Nat):Int)<|wm<|wZ ?_
     have hv2:OwnSl 44 32 v151 (i+1) (digsL ((l.take (i+1)).map (·.dig))) Lv151:=by
      rw[take_succ_eq_append_getElem hlt,he,map_append,map_singleton,digsL_snoc];exact hv151
     refine(show _∧_ from⟨rfl,_,?_,i+1,v151,Lv151,hlt,rfl,hv2,hs,rfl,rfl,rfl,rfl,rfl,rfl,rfl,rfl,rfl,rfl,rfl,trivial⟩)
     omega
    ·cases h
   ·obtain rfl:i=l.length:=by omega
    rw[take_length] at hvp
    refine sr<|lF<|wZ<|cq<|CW.cond rfl (fun h=>?_) (fun h=>?_)
    ·cases h
    rw[hZ0] at hs
    replace hs:=Step.ofStk (Z:=LP) (T:=T3) (Y:=Le) hs
    have hpd:l.map (·.dig)=partsD s x.d:=by rw[partsD,hll]
    have hHP:HeldP (LP++(Lv++(D1++D))) vp (partsD s x.d):=⟨LP,by rw[←hpd,length_map];exact hvp,fun p hp=>mem_append_left _ hp⟩
    refine CW.exit<|CW.quietT (l1:=[_,_,_,_,_,_,_]) (l2:=[_]) 7 rfl mixedP rfl (by kernel_rfl) hs ?_
    refine qm<|qn rfl<|qF 2 u132 rfl ty130 rfl<|qL ty130 rfl (fun w hs=>hs.c0 (v:=.map (some q2)) rfl)<|qF 0 u212 rfl ty44 rfl<|qV (fun w hs=>run_loadN ty44 rfl hxl hs.a3.left)<|qm<|QL.nil (fun w hs=>?_)
    refine WL.mapPut u130 rfl rfl rfl hPm.keys hx32 hs.rot3 (fun w hs=>?_)
    replace hs:=hs.rot3.rot3
    refine wZ ?_
    replace hs:Step (List.map (·.1) (L++D)) ((b26,blk 132 [vO',.map (some q1),.map (some q2)])::(q1,mapObj (putM x.d (.slice va (s.get x.d).1.length vc) k1 M1) (putC x.d k1 M1))::(q2,mapObj (putM x.d vp k2 M2) (putC x.d k2 M2))::(b13,blk STD (stdC x))::(b5,blk 30 (roomC rm))::(LO'++(T3++(LP++(L2++(Lv++(D1++D))))))) w0 w:=hs
    have hs2:=Step.partsIn (M:=_::_::_::LO') (Z:=LP) (L:=L2) (A:=Lv) (B:=D1) (Step.ofMet hs)
    have hM2:MetRep b26 s (t.m++[(x.d,x.dir)]) (LP++(Lv++(D1++D))) ((b26,blk 132 [vO',.map (some q1),.map (some q2)])::(q1,mapObj (putM x.d (.slice va (s.get x.d).1.length vc) k1 M1) (putC x.d k1 M1))::(q2,mapObj (putM x.d vp k2 M2) (putC x.d k2 M2))::LO'):=⟨vO',LO',q1,_,_,q2,_,_,rfl,hO',hB'.mono mem_right,by rw[hxt];exact(hPm.mono mem_right).put hx32 hHP k2⟩
    have hP4:PRep bp (s.gotN (t.g+1)) (LP++(Lv++(D1++D))) L2:=hP3.mono mem_right
    have e1:LP++(Lv++(D1++D))=(LP++(Lv++D1))++D:=by simp[append_assoc]
    rw[e1] at hM2 hP4
    refine(show _∧_ from⟨rfl,_,?_,(l.map (kidOf x))++rest,⟨t.n+1,t.b,t.g+1,t.m++[(x.d,x.dir)],(push x t).l⟩,T3,_,L2,LP++(Lv++D1),hr,rfl,hg2,?_,?_,hS3,hM2,hP4,hs2,rfl,rfl,rfl,rfl,rfl,rfl,trivial⟩)
    ·show 65537 - (t.n+1)<65537 - t.n;omega
    ·show((l.map (kidOf x))++rest).length≤1+(t.n+1)*1024
     rw[length_append,length_map];omega
    ·intro y hy
     rcases mem_append.1 hy with hy | hy
     ·have ob:=mem_map.1 hy
      obtain⟨e,he,rfl⟩:=ob
      exact⟨(hoks e he).1,by show x.dep+1≤33;omega⟩
     ·exact htd y (by simp[hy])
  ·have ob:∃j,m=j+1:=⟨m - 1,by omega⟩
   obtain⟨j,rfl⟩:=ob
   obtain rfl:z=((j:Nat):Int):=by omega
   have ob:=hf.chain
   obtain⟨g,rfl⟩:=ob
   have hlt:j<l.length:=by omega
   have ob:=hu.some1 (by omega)
   obtain⟨bu,cu,more,hu1,hu2,hu3⟩:=ob
   cases hu1
   subst hu2
   have ob:∃e,l[j]=e:=⟨_,rfl⟩
   obtain⟨e,he⟩:=ob
   have heo:=hoks e (he▸getElem_mem hlt)
   have hel:(u8s e.dig).length=32:=by rw[u8s,length_map,heo.1]
   have hent:∀{T:OL}{w:World},Step (List.map (·.1) (L++D)) ((b13,blk STD (stdC x))::(T++(((b117,blk 44 [])::[(bu,blk 115 (rows l++more))])++Z0))) w0 w→At w bu (0+j*34) e.cells:=fun h=>by
    have h2:=(At.of_blk (h.has (bu,blk 115 (rows l++more)) (by simp))).left.ent hoks hlt
    rw[he] at h2;exact h2
   have hdr:(((l.drop j).map (kidOf x))++rest).map stdC=stdC (kidOf x e)::(((l.drop (j+1)).map (kidOf x))++rest).map stdC:=by
    rw[drop_eq_getElem_cons hlt,he];rfl
   have hlen3:((((l.drop (j+1)).map (kidOf x))++rest).map stdC).length<1000000000:=by
    rw[length_map,length_append,length_map,length_drop];omega
   refine cq<|sr<|wm<|jT<|wZ<|CW.cond rfl (fun h=>?_) (fun h=>?_)
   ·refine ck<|cq<|cB<|CW.quietT (l1:=[_,_,_,_,_,_,_,_,_,_,_,_,_,_,_]) (l2:=[_]) 15 rfl mixedP rfl (by kernel_rfl) hs ?_
    refine qm<|qm<|qI u116 ty115 rfl rfl<|qF 2 u115 rfl ty44 rfl<|qV (fun w hs=>run_loadN ty44 rfl hel ((hent hs).drop 2))<|qm<|qm<|qI u116 ty115 rfl rfl<|qF 1 u115 rfl ty3 rfl<|qL ty3 rfl (fun w hs=>(hent hs).cell (j:=1) rfl)<|qV (fun w hs=>run_eql rfl rfl)<|qF 33 u212 rfl ty3 rfl<|qL ty3 rfl (fun w hs=>hs.c0 h33)<|qV (fun w hs=>run_add (c:=((x.dep+1:Nat):Int)) rfl rfl (by omega) (by omega)) ?_
    refine qV (fun w hs=>run_build rfl (bld_std heo.1 _ _ _))<|QL.nil (fun w hs=>?_)
    refine wE rfl (run_call en116 rfl rfl) (pushstanding_spec (c:=stdC (kidOf x e)) hS3 (stdC_len (x:=kidOf x e) heo.1) (stdC_c1 _) hlen3 (Lives.of (L1:=T3) hs.tail)) ?_
    rintro e w ⟨T4,rfl,hS4,hq⟩
    refine⟨_,rfl,?_⟩
    replace hs:=Own.set (A:=[_]) (L:=T3) hs hq
    refine wZ<|cr<|wm<|wS (((j:Nat):Int) - 1)<|wA<|wZ<|(show _∧_ from⟨rfl,_,?_,j,_,T4,by omega,rfl,rfl,by rw[hdr];exact hS4,hs,rfl,rfl,rfl,rfl,rfl,rfl,rfl,rfl,rfl,rfl,trivial⟩)
    omega
   ·cases h
end
section
variable{bp br:Nat}{s:AS}{D D' L R:OL}{w0:World}
set_option maxHeartbeats 4000000 in
theorem alike9_spec{g0:Nat} (hR:PRep bp s D L) (hT:RRep br { s with gets:=g0 } D' R) (ok:s.Ok) (hw:Lives (L++D) w0) (hw2:Lives (R++D') w0):CP 22 #[pt bp,pt br] w0 (Ret0 (.bool true) w0):=by
 have hul:=used_len s.X
 have hou:=ok.used
 have hs:Step [] [] w0 w0:=Step.refl w0
 have ok2:({ s with gets:=g0 }:AS).Ok:=⟨ok.k1,ok.k2,ok.cap,ok.sorted,ok.len,ok.used⟩
 have ob:=hT.open ok2 hw2
 obtain⟨ra,rc,Lr,T,o⟩:=ob
 have hat:∀{w},Step [] [] w0 w→At w br 0 (rsC s.k s.cap s.last (.slice ra s.X.length rc) g0 s.puts):=fun h=>At.of_blk (o.step h).hb
 refine callsM (n:=98) Tryz.func22 rfl rfl rfl ?_
 refine sr<|WL.box rfl (rfl) rfl hs (fun b2 w hs=>?_)
 refine WL.box rfl (rfl) rfl hs (fun b3 w hs=>?_)
 refine WL.alloc ty4 rfl hs (fun b4 w hs=>?_)
 refine wZ<|sr<|wl ty39 rfl (hs.c2 (v:=pt bp) rfl)<|wE rfl (run_call en31 rfl rfl) (all_abs hR ok (hw.after hs.clear)) ?_
 rintro e w ⟨bq,lv,Lv,Q,rfl,ha1,ha2,ha3,hq⟩
 refine⟨_,rfl,?_⟩
 replace hs:=(Step.call0 hs hq).append_comm (L1:=_::Lv) (L2:=[_,_,_])
 refine wA<|wZ<|cq<|cq<|CW.quiet mixedP (by kernel_rfl) hs ?_
 refine qm<|qV (fun w hs=>run_funcNil u72 rfl rfl)<|qm<|qy<|qL ty39 rfl (fun w hs=>hs.c2 (v:=pt bp) rfl)<|qy<|QL.enter rfl (fun w=>run_call en29 rfl rfl) (fun w hs=>len_abs hR ok (hw.after hs.clear)) ?_
 refine qy<|qL ty40 rfl (fun w hs=>hs.c1 (v:=pt br) rfl)<|qy<|qn rfl<|qy<|qF 3 u54 rfl ty52 rfl<|qy<|qL ty52 rfl (fun w hs=>(hat hs.clear).cell (j:=3) rfl)<|qy<|qV (fun w hs=>run_lenSl u52 rfl)<|qy<|qV (fun w hs=>run_bF (run_neq rfl rfl) (by exact fun h=>h rfl))<|qP<|qm ?_
 refine qy<|qL ty39 rfl (fun w hs=>hs.c2 (v:=pt bp) rfl)<|qy<|QL.enter rfl (fun w=>run_call en55 rfl rfl) (fun w hs=>used_abs hR ok (hw.after hs.clear)) ?_
 refine qy<|qL ty40 rfl (fun w hs=>hs.c1 (v:=pt br) rfl)<|qy<|QL.enter rfl (fun w=>run_call en67 rfl rfl) (fun w hs=>rused_spec (o.step hs.clear) ok2) ?_
 refine qy<|qV (fun w hs=>run_bF (run_neq rfl rfl) (by exact fun h=>h rfl))<|qP<|qm<|qy<|qL ty39 rfl (fun w hs=>hs.c2 (v:=pt bp) rfl)<|qy<|QL.enter rfl (fun w=>run_call en68 rfl rfl) (fun w hs=>cap_abs hR ok (hw.after hs.clear)) ?_
 refine qy<|qL ty40 rfl (fun w hs=>hs.c1 (v:=pt br) rfl)<|qy<|qn rfl<|qy<|qF 1 u54 rfl ty3 rfl<|qy<|qL ty3 rfl (fun w hs=>(hat hs.clear).cell (j:=1) rfl)<|qy<|qV (fun w hs=>run_bF (run_neq rfl rfl) (by exact fun h=>h rfl))<|qP<|QL.nil (fun w hs=>?_)
 refine CW.cond rfl (fun h=>?_) (fun h=>?_)
 ·cases h
 refine ck<|sr<|WL.alloc ty3 rfl hs (fun b6 w hs=>?_)
 refine ws1 ty3 rfl rfl (rfl) hs (fun w hs=>?_)
 refine wZ<|cq<|sr<|wm<|wZ<|cB<|CW.rangeFunc2 (cap:=[pt bq]) en82 rfl hs ?_
 intro l b0 r w2 hrec hrs hrp hs2
 clear hs
 refine(all2_iter (b3:=bq) (lv:=lv) (R:=Q) (X:=s.X.map fun b=>(b.d,b.x)) w2
  (J:=fun k L W=>L=[(l,.loop r),(b0,.deferred (some [])),(b6,blk 3 [.int .i64 (k:Nat)]),(b4,blk 4 [.bool false])]∧Step [] (L++((b3,blk 40 [pt br])::(b2,blk 39 [pt bp])::(bq,blk 156 [lv])::Lv)) w0 W)
  (Jx:=fun _=>False) (L0:=[(l,.loop r),(b0,.deferred (some [])),(b6,blk 3 [.int .i64 0]),(b4,blk 4 [.bool false])]) ?_ ?_ ?_ ?_).mono ?_
 ·rintro k L W W' ⟨rfl,hs⟩ h'
  exact⟨rfl,hs.callE h'⟩
 ·rintro k L W ⟨rfl,hs⟩
  exact seqOk_of (Y:=[_,_,_,_,_,_]) ok hw ha1 ha2 ha3 hs
 ·exact⟨rfl,hs2⟩
 ·rintro k d x L' W W1 v' Lv' hx ⟨rfl,hs⟩ hst hu'
  obtain⟨b,hb,hbd,hbx⟩:∃b,s.X[k]?=some b∧b.d=d∧b.x=x:=by
   rw[getElem?_map] at hx
   cases hb:s.X[k]? with
   | none=>rw[hb] at hx;cases hx
   | some b=>
    rw[hb] at hx
    simp only[Option.map_some,Option.some.injEq,Prod.mk.injEq] at hx
    exact⟨b,rfl,hx.1,hx.2⟩
  subst hbd hbx
  have hkl:=(List.getElem?_eq_some_iff.1 hb).1
  have hd32:=ok.len b (mem_of_getElem? hb)
  have hdl:(u8s b.d).length=32:=by rw[u8s,length_map,hd32]
  have hm:=used_mem (mem_of_getElem? hb)
  have hW1:=Step.call0 hs hst
  rw[←append_assoc] at hW1
  have hsW:=Step.append_comm (L1:=Lv') (L2:=[_,_,_,_]) (Step.own hW1)
  have ob:=hu'.form
  obtain⟨va,vc,rfl⟩:=ob
  refine yields_of2 (n:=98) hrec hrs rfl rfl hsW ?_
  have hs:=hsW
  refine CWI.seq ?_
  refine CWI.reg rfl (fun _ _ _ h=>h) ?_
  refine WL.alloc ty44 rfl hs (fun b7 w hs=>?_)
  refine WL.storeAll ty44 rfl rfl ((hdl)) (Cells1.u8s _) hs (by rfl) (fun w hs=>?_)
  refine wZ<|CWI.reg rfl (fun _ _ _ h=>h) ?_
  refine wA<|wZ ?_
  have ob:=o.row hb
  obtain⟨bv,rv,hra,hrv,hrow⟩:=ob
  subst hra
  have hcl:∀{Y w},Step ((Lv'++[(l,Obj.loop r),(b0,.deferred (some [])),(b6,blk 3 [.int .i64 (k:Nat)]),(b4,blk 4 [.bool false])]).map (·.1)) Y W1 w→Step [] [] w0 w:=fun h=>(Step.call hW1 h).clear
  have hb3:∀{Y w},Step ((Lv'++[(l,Obj.loop r),(b0,.deferred (some [])),(b6,blk 3 [.int .i64 (k:Nat)]),(b4,blk 4 [.bool false])]).map (·.1)) Y W1 w→w.cell? ⟨b3,0,none⟩=some (pt br):=fun h=>by
   have h2:=(Step.call hW1 h).has (b3,blk 40 [pt br]) (by simp)
   rw[cell_blk h2];rfl
  have hb2:∀{Y w},Step ((Lv'++[(l,Obj.loop r),(b0,.deferred (some [])),(b6,blk 3 [.int .i64 (k:Nat)]),(b4,blk 4 [.bool false])]).map (·.1)) Y W1 w→w.cell? ⟨b2,0,none⟩=some (pt bp):=fun h=>by
   have h2:=(Step.call hW1 h).has (b2,blk 39 [pt bp]) (by simp)
   rw[cell_blk h2];rfl
  have hro:∀{w},Step [] [] w0 w→At w bv (0+k*34) (rbC (b.d,rv,b.st)):=fun h=>hrow.step h (by simp)
  have hst2:=fun {w} (h:Step [] [] w0 w)=>stamp_abs (d:=b.d) hR ok (hw.after h) hd32
  have hsv:s.stamp b.d=b.st:=by unfold AS.stamp;rw[findX_mem ok.sorted.nodup (mem_of_getElem? hb)]
  rw[hsv] at hst2
  have hgot:Held Lv' (.slice va b.x.length vc) b.x:=⟨Lv',hu',fun p hp=>hp⟩
  refine⟨_,_,_,_,hs.swap,hrs,fun w3 hs=>?_⟩
  refine CWI.block<|CWI.seq<|CWI.seq ?_
  refine CWI.quiet rfl (fun _ _ _ h=>h) mixedP (by kernel_rfl) hs ?_
  refine qL ty3 rfl (fun w hs=>hs.c3 rfl)<|qL ty40 rfl (fun w hs=>hb3 hs)<|qn rfl<|qF 3 u54 rfl ty52 rfl<|qL ty52 rfl (fun w hs=>(hat (hcl hs)).cell (j:=3) rfl)<|qV (fun w hs=>run_lenSl u52 rfl)<|qV (fun w hs=>run_bF (run_geq rfl rfl) (by omega))<|qm<|qy<|qV (fun w hs=>run_loadN ty44 rfl hdl hs.a1)<|qy<|qL ty40 rfl (fun w hs=>hb3 hs)<|qy<|qn rfl ?_
  refine qy<|qF 3 u54 rfl ty52 rfl<|qy<|qL ty52 rfl (fun w hs=>(hat (hcl hs)).cell (j:=3) rfl)<|qy<|qL ty3 rfl (fun w hs=>hs.c3 rfl) ?_
  refine qy ?_;(first | refine QL.val rfl (fun w hs=>run_ixSlN u52 ty80 rfl rfl (by omega)) ?_ | refine QL.val rfl (fun w hs=>run_ixSl u52 ty80 rfl rfl (by omega)) ?_)
  refine qy<|qF 0 u80 rfl ty44 rfl<|qy<|qV (fun w hs=>run_loadN ty44 rfl hdl (by have h:=(hro (hcl hs)).take 32;rw[rbC_fst hd32] at h;exact h))<|qy<|qV (fun w hs=>run_bF (run_neDig hd32 hd32 rfl rfl) (fun h=>h rfl))<|qP<|qm<|qy<|qm<|qy<|qV (fun w hs=>run_toString u76 u9 u5 rfl (hgot.sl fun p hp=>hs.has p (by simp[hp])))<|qy<|qL ty40 rfl (fun w hs=>hb3 hs) ?_
  refine qy<|qn rfl<|qy<|qF 3 u54 rfl ty52 rfl<|qy<|qL ty52 rfl (fun w hs=>(hat (hcl hs)).cell (j:=3) rfl)<|qy<|qL ty3 rfl (fun w hs=>hs.c3 rfl) ?_
  refine qy ?_;(first | refine QL.val rfl (fun w hs=>run_ixSlN u52 ty80 rfl rfl (by omega)) ?_ | refine QL.val rfl (fun w hs=>run_ixSl u52 ty80 rfl rfl (by omega)) ?_)
  refine qy<|qF 32 u80 rfl ty76 rfl<|qy<|qL ty76 rfl (fun w hs=>(hro (hcl hs)).cell (rbC_32 hd32))<|qy<|qV (fun w hs=>run_toString u76 u9 u5 rfl (hrv.sl fun p hp=>(hw2.after (hcl hs)).has p (by simp[hp])))<|qy<|qV (fun w hs=>run_bF (run_strNe rfl rfl) (by exact fun h=>h rfl))<|qP<|qm<|qy<|qL ty39 rfl (fun w hs=>hb2 hs)<|qy<|qV (fun w hs=>run_loadN ty44 rfl hdl hs.a1) ?_
  refine qy<|QL.enter rfl (fun w=>run_call en50 rfl rfl) (fun w hs=>hst2 (hcl hs)) ?_
  refine qy<|qL ty40 rfl (fun w hs=>hb3 hs)<|qy<|qn rfl<|qy<|qF 3 u54 rfl ty52 rfl<|qy<|qL ty52 rfl (fun w hs=>(hat (hcl hs)).cell (j:=3) rfl)<|qy<|qL ty3 rfl (fun w hs=>hs.c3 rfl) ?_
  refine qy ?_;(first | refine QL.val rfl (fun w hs=>run_ixSlN u52 ty80 rfl rfl (by omega)) ?_ | refine QL.val rfl (fun w hs=>run_ixSl u52 ty80 rfl rfl (by omega)) ?_)
  refine qy<|qF 33 u80 rfl ty3 rfl<|qy<|qL ty3 rfl (fun w hs=>(hro (hcl hs)).cell (rbC_33 hd32))<|qy<|qV (fun w hs=>run_bF (run_neq rfl rfl) (by exact fun h=>h rfl))<|qP<|QL.nil (fun w hs=>?_)
  refine CWI.condF rfl<|CWI.skip ?_
  refine CWI.reg rfl (fun _ _ _ h=>h) ?_
  refine wl ty3 rfl (hs.c3 rfl)<|wP ((k+1:Nat):Int)<|WL.store1_3 ty3 rfl rfl (rfl) hs (by first | (simp;done) | omega | (simp only[length_append,length_replicate,length_cons,length_nil,length_set];omega) | (simp[Ent.cells,u8s];done) | exact Nat.le_of_ble_eq_true rfl) (fun w hs=>?_)
  refine wZ<|⟨_,_,_,_,hs,fun w' hs'=>?_⟩
  rw[Loop.at_back hrs hrp] at hs'
  rw[if_pos rfl]
  have hs4:=Step.dropR (L1:=[_,_,_,_]) hs'.swap.tail
  exact⟨_,hs4,rfl,Step.call hW1 hs4⟩
 ·rintro e w' ⟨hret,⟨L',rfl,hs⟩ | h⟩
  ·refine⟨hret,behind_none hs hrs hrp fun w hs=>?_⟩
   simp only[length_map] at hs
   replace hs:=hs.swap
   refine cq<|CW.quietT (l1:=[_,_,_,_,_,_,_]) (l2:=[_]) 7 rfl mixedP rfl (by kernel_rfl) hs ?_
   refine qL ty3 rfl (fun w hs=>hs.c2 rfl)<|qL ty40 rfl (fun w hs=>hs.c4 (v:=pt br) rfl)<|qn rfl<|qF 3 u54 rfl ty52 rfl<|qL ty52 rfl (fun w hs=>(hat hs.clear).cell (j:=3) rfl)<|qV (fun w hs=>run_lenSl u52 rfl)<|qV (fun w hs=>run_bT (run_eql rfl rfl) (by rfl))<|QL.nil (fun w hs=>?_)
   refine WL.store1_3 ty4 rfl rfl (rfl) hs (by first | (simp;done) | omega | (simp only[length_append,length_replicate,length_cons,length_nil,length_set];omega) | (simp[Ent.cells,u8s];done) | exact Nat.le_of_ble_eq_true rfl) (fun w hs=>?_)
   refine wZ<|CW.ret ?_
   refine finM_ret (bs:=[b0]) (.inl rfl) hs fun a ha w2 hs2=>⟨_,res_cell1 ha rfl rfl (run_loadVar1 ty4 (hs2.c3 rfl)),rfl,hs2.clear⟩
  ·exact h.elim
theorem alike8_spec (hR:PRep bp s D L) (hT:RRep br s D' R) (ok:s.Ok) (hw:Lives (L++D) w0) (hw2:Lives (R++D') w0):CP 22 #[pt bp,pt br] w0 (Ret0 (.bool true) w0):=alike9_spec (g0:=s.gets) hR hT ok hw hw2
end
theorem roundL_spec{a:Int}{n:Nat} (h:0<n) (hn:n<1099511627776) (ha : -9223372036854775808≤a∧a≤9223372036854775807) (w0:World):CP 46 #[.int .i64 a,.int .i64 (n:Nat)] w0 (Ret0 (.int .i64 (roundZ a n:Nat)) w0):=by
 have hs:Step [] [] w0 w0:=Step.refl w0
 have h1:=Int.emod_nonneg a (show(n:Int)≠0 by omega)
 have h2:=Int.emod_lt_of_pos a (show(0:Int)<n by omega)
 have ht:a.tmod n=a % n∨a.tmod n=a % n - n:=by
  rw[Int.tmod_eq_emod]
  split
  ·left;omega
  ·right;simp[Int.natAbs]
 have hrz:((roundZ a n:Nat):Int)=a % n:=by unfold roundZ;omega
 by_cases hneg:a.tmod n<0
 ·have e:a.tmod n+n=(roundZ a n:Nat):=by omega
  refine calls (n:=15) Tryz.func46 rfl rfl rfl ?_
  refine sr<|wA<|wZ<|sr<|wm<|wm<|wV (run_rem rfl rfl (by omega))<|wA<|wZ<|cq<|sr<|wm<|wV (run_bT (run_lss rfl rfl) (by exact hneg))<|wZ ?_
  refine CW.cond rfl (fun h=>?_) (fun h=>?_)
  ·skip
   refine cr<|wm<|wm<|wP ((roundZ a n:Nat):Int)<|wA<|wZ<|sr<|wm<|wA<|wZ<|CW.ret ?_
   refine fin_ret1 rfl ?_
   exact⟨rfl,hs⟩
  ·cases h
 ·have e:a.tmod n=(roundZ a n:Nat):=by omega
  refine calls (n:=15) Tryz.func46 rfl rfl rfl ?_
  refine sr<|wA<|wZ<|sr<|wm<|wm<|wV (run_rem rfl rfl (by omega))<|wA<|wZ<|cq<|sr<|wm<|wV (run_bF (run_lss rfl rfl) (by exact hneg))<|wZ ?_
  refine CW.cond rfl (fun h=>?_) (fun h=>?_)
  ·cases h
  refine ck<|sr<|wm<|wA<|wZ<|CW.ret ?_
  refine fin_ret1 rfl ?_
  exact⟨congrArg (fun z=>Ending.returned (.int .i64 z)) e,hs⟩
structure Dgs (w:World) (v:Value) (l:List (List UInt8)):Prop where
 sl:Sl w 32 v l.length (digsL l)
 len:∀d∈l,d.length=32
 small:l.length<1099511627776
theorem digsL_at:∀{l:List (List UInt8)},(∀d∈l,d.length=32)→∀{w:World}{b off:Nat},At w b off (digsL l)→∀{i:Nat}{d:U8},l[i]?=some d→At w b (off+i*32) (u8s d)
 | [],_,w,b,off,_,i,d,h=>by simp at h
 | x::l,hl,w,b,off,ha,0,d,h=>by
  rw[getElem?_cons_zero] at h
  obtain rfl:=Option.some.inj h
  rw[Nat.zero_mul,Nat.add_zero]
  rw[digsL,flatMap_cons] at ha
  exact ha.left
 | x::l,hl,w,b,off,ha,i+1,d,h=>by
  rw[digsL,flatMap_cons] at ha
  have h2:=ha.right
  have hx:(u8s x).length=32:=by rw[u8s,length_map,hl x (by simp)]
  rw[hx] at h2
  have h3:=digsL_at (l:=l) (fun d hd=>hl d (by simp[hd])) h2 (i:=i) (d:=d) h
  rw[show off+(i+1)*32=off+32+i*32 by omega]
  exact h3
theorem Dgs.at{w:World}{v:Value}{l:List (List UInt8)} (h:Dgs w v l){i:Nat}{d:U8} (hi:l[i]?=some d):∃b off c,v=.slice (some ⟨b,off,none⟩) l.length c∧At w b (off+i*32) (u8s d):=by
 have ob:=h.sl
 obtain⟨_,⟨a,c,rfl,h0⟩ | ⟨b,off,c,rfl,ha⟩⟩:=ob
 ·rw[eq_nil_of_length_eq_zero h0] at hi;simp at hi
 ·exact⟨b,off,c,rfl,digsL_at h.len ha hi⟩
theorem Dgs.step0 {w w':World}{v:Value}{l:List (List UInt8)}{L:OL} (h:Dgs w v l) (hs:Step [] L w w'):Dgs w' v l:=⟨h.sl.step0 hs,h.len,h.small⟩
theorem Dgs.form{w:World}{v:Value}{l:List (List UInt8)} (h:Dgs w v l):∃a c,v=.slice a l.length c:=by
 have ob:=h.sl
 obtain⟨_,⟨a,c,rfl,h0⟩ | ⟨b,off,c,rfl,ha⟩⟩:=ob
 ·exact⟨a,c,by rw[h0]⟩
 ·exact⟨_,c,rfl⟩
theorem Dgs.own{w:World}{v:Value}{l:List (List UInt8)}{Lv:OL} (h:OwnSl 44 32 v l.length (digsL l) Lv) (hw:∀p∈Lv,w.heap[p.1]?=some p.2) (hl:∀d∈l,d.length=32) (hs:l.length<1099511627776):Dgs w v l:=by
 refine⟨?_,hl,hs⟩
 obtain⟨h1,⟨rfl,h0,rfl⟩ | ⟨b,cap,more,rfl,rfl,h3⟩⟩:=h
 ·rw[eq_nil_of_length_eq_zero h0];exact Sl.nil _ _ _
 ·exact Sl.mk h1 (At.of_blk (hw (b,blk 44 (digsL l++more)) (by simp))).left
set_option maxHeartbeats 4000000 in
theorem sameD_spec{u v:Value}{l m:List (List UInt8)}{w0:World} (hu:Dgs w0 u l) (hv:Dgs w0 v m):CP 20 #[u,v] w0 (Ret0 (.bool (decide (l=m))) w0):=by
 have hs:Step [] [] w0 w0:=Step.refl w0
 have ob:=hu.form
 obtain⟨a,c,rfl⟩:=ob
 have ob:=hv.form
 obtain⟨a2,c2,rfl⟩:=ob
 have hsm:=hu.small
 have hsm2:=hv.small
 have ob:∃r,decide (l=m)=r:=⟨_,rfl⟩
 obtain⟨r,hr⟩:=ob
 rw[hr]
 by_cases hlen:l.length=m.length
 ·refine calls (n:=26) Tryz.func20 rfl rfl rfl ?_
  refine sr<|wA<|wZ<|cq<|sr<|wm<|wL u35 rfl<|wm<|wL u35 rfl<|nF<|wZ<|CW.cond rfl (fun h=>?_) (fun h=>?_)
  ·cases h
  refine ck<|cq<|sr<|wA<|wZ<|cB<|CW.loop (fun z f w'=>∃i,i≤l.length∧z=l.length - i∧l.take i=m.take i∧Step [] [] w0 w'∧Holds f [(0,.slice a l.length c),(1,.slice a2 m.length c2),(5,.int .i64 (i:Nat))]) (m:=l.length) ?_ ?_
  ·exact⟨0,Nat.zero_le _,rfl,by simp,hs,rfl,rfl,rfl,trivial⟩
  ·rintro z f w ⟨i,hi,rfl,heq,hs,hf⟩
   have ob:=hf.chain
   obtain⟨g,rfl⟩:=ob
   by_cases hlt:i<l.length
   ·have ob:∃e,l[i]?=some e:=⟨_,getElem?_eq_getElem hlt⟩
    obtain⟨e,he⟩:=ob
    have ob:∃e,m[i]?=some e:=⟨_,getElem?_eq_getElem (by omega)⟩
    obtain⟨e2,he2⟩:=ob
    have ob:=hu.at he
    obtain⟨b,off,c',hb,hat⟩:=ob
    cases hb
    have ob:=hv.at he2
    obtain⟨b2,off2,c2',hb2,hat2⟩:=ob
    cases hb2
    have hel:=hu.len e (mem_of_getElem? he)
    have hel2:(u8s e).length=32:=by rw[u8s,length_map,hel]
    have hem:=hv.len e2 (mem_of_getElem? he2)
    have hem2:(u8s e2).length=32:=by rw[u8s,length_map,hem]
    refine cq<|sr<|wm<|wm<|wL u35 rfl<|lT<|wZ<|CW.cond rfl (fun h=>?_) (fun h=>?_)
    ·by_cases hed:e=e2
     ·refine ck<|cq<|cB<|cq<|CW.quiet mixedP (by kernel_rfl) hs ?_
      refine qm<|qm<|qI u35 ty44 rfl rfl<|qV (fun w hs=>run_loadN ty44 rfl hel2 (hat.step hs.clear (by simp)))<|qm<|qm<|qI u35 ty44 rfl rfl<|qV (fun w hs=>run_loadN ty44 rfl hem2 (hat2.step hs.clear (by simp)))<|qV (fun w hs=>run_bF (run_neDig hel hem rfl rfl) (fun h=>h hed))<|QL.nil (fun w hs=>?_)
      refine CW.cond rfl (fun h=>?_) (fun h=>?_)
      ·cases h
      refine ck<|cr<|wm<|wP ((i+1:Nat):Int)<|wA<|wZ<|(show _∧_ from⟨rfl,_,?_,i+1,hlt,rfl,?_,hs,rfl,rfl,rfl,trivial⟩)
      ·omega
      ·rw[take_add_one,take_add_one,he,he2,heq,hed]
     ·refine ck<|cq<|cB<|cq<|CW.quiet mixedP (by kernel_rfl) hs ?_
      refine qm<|qm<|qI u35 ty44 rfl rfl<|qV (fun w hs=>run_loadN ty44 rfl hel2 (hat.step hs.clear (by simp)))<|qm<|qm<|qI u35 ty44 rfl rfl<|qV (fun w hs=>run_loadN ty44 rfl hem2 (hat2.step hs.clear (by simp)))<|qV (fun w hs=>run_bT (run_neDig hel hem rfl rfl) hed)<|QL.nil (fun w hs=>?_)
      refine CW.cond rfl (fun h=>?_) (fun h=>?_)
      ·refine sr<|wA<|wZ<|CW.ret ?_
       refine fin_ret1 rfl ?_
       exact⟨congrArg (fun b=>Ending.returned (.bool b)) (by rw[←hr];symm;rw[decide_eq_false_iff_not];intro h;rw[h,he2] at he;exact hed (Option.some.inj he).symm),hs⟩
      ·cases h
    ·cases h
   ·obtain rfl:i=l.length:=by omega
    have hlm:l=m:=by
     rw[take_length,hlen,take_length] at heq;exact heq
    refine cq<|sr<|wm<|wm<|wL u35 rfl<|lF<|wZ<|CW.cond rfl (fun h=>?_) (fun h=>?_)
    ·cases h
    refine CW.exit<|sr<|wA<|wZ<|CW.ret ?_
    refine fin_ret1 rfl ?_
    exact⟨congrArg (fun b=>Ending.returned (.bool b)) (by rw[←hr];simp[hlm]),hs⟩
 ·refine calls (n:=26) Tryz.func20 rfl rfl rfl ?_
  refine sr<|wA<|wZ<|cq<|sr<|wm<|wL u35 rfl<|wm<|wL u35 rfl<|nT<|wZ<|CW.cond rfl (fun h=>?_) (fun h=>?_)
  ·refine sr<|wA<|wZ<|CW.ret ?_
   refine fin_ret1 rfl ?_
   exact⟨congrArg (fun b=>Ending.returned (.bool b)) (by rw[←hr];symm;rw[decide_eq_false_iff_not];intro h;exact hlen (congrArg _ h)),hs⟩
  ·cases h
end Go.Gx
