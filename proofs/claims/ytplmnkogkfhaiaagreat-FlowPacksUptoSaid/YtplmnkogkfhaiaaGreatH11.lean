/- Arguments of the laws of flows, opened: a Setup, a Room. Going behind the parts: the plain law of both walks. behind: walked. behind: walked, whole. What a walk that went well has met: it holds the parts of its directories. No program in sight. The document's Parts: walked. The document's going behi -/
import Derived.Test.YtplmnkogkfhaiaaGreatH10
import Derived.Test.YtplmnkogkfhaiaaGreatRows
import Derived.ProofKit
import Derived.OpenShut
import Derived.JoinedCond
import Derived.Deep.Slices
import Derived.Deep.Strs
import Derived.ChangeMaps5
import Derived.SliceStrings
import Derived.Test.YtplmnkogkfhaiaaGreatH1
set_option linter.unusedVariables false
set_option linter.unusedSimpArgs false
set_option maxRecDepth 100000
namespace Go.Gx
open Go.Proofs Go.ChangeShapes Go.WideShapes Go.ChangeAt Go.RowKit Go.Deep
open Go.Proofs.YtplmnkogkfhaiaaGreat (Rows.uptoBulk Rows.uptoBulkAll)
theorem Step.below{L:List (Nat×Obj)}{w w':World} (h:Step [] L w w'):Below w.heap.size w w':=
 ⟨h.chg.os,h.chg.tape,h.chg.output,h.chg.size,fun k hk=>h.chg.block k hk (by simp)⟩
section
variable{H:Type}
theorem bulk_pos:∀d:DataW H,1≤Rows.uptoBulk d
 | .lit x=>by cases x <;> simp[Rows.uptoBulk]
 | .nil=>by simp[Rows.uptoBulk]
 | .ptr d=>by simp[Rows.uptoBulk]
 | .slice a b=>by simp[Rows.uptoBulk]
 | .agg a=>by simp[Rows.uptoBulk]
 | .iface _ d=>by simp[Rows.uptoBulk]
 | .map a=>by simp[Rows.uptoBulk]
 | .held _=>by simp[Rows.uptoBulk]
theorem bulk_len:∀l:List (DataW H),l.length≤Rows.uptoBulkAll l
 | []=>by simp[Rows.uptoBulkAll]
 | d::l=>by
  have h1:=bulk_pos d
  have h2:=bulk_len l
  simp only[Rows.uptoBulkAll,List.length_cons]
  omega
theorem bulk_mem:∀{l:List (DataW H)}{d:DataW H},d∈l→Rows.uptoBulk d≤Rows.uptoBulkAll l
 | x::l,d,h=>by
  simp only[Rows.uptoBulkAll]
  rcases List.mem_cons.1 h with rfl | h
  ·omega
  ·have:=bulk_mem h;omega
end
theorem mapM_get{α β:Type}{f:α→Option β}:∀{l:List α}{r:List β},l.mapM f=some r→r.length=l.length∧∀(i:Nat) (h:i<l.length),f l[i]=r[i]?
 | [],r,h=>by
  simp at h
  subst h
  exact⟨rfl,fun i h=>by simp at h⟩
 | x::l,r,h=>by
  rw[List.mapM_cons] at h
  cases hx:f x with
  | none=>rw[hx] at h;cases h
  | some y=>
   cases hl:l.mapM f with
   | none=>rw[hx,hl] at h;cases h
   | some ys=>
    rw[hx,hl] at h
    obtain rfl:y::ys=r:=by simpa using h
    have ob:=mapM_get hl
    obtain⟨h1,h2⟩:=ob
    refine⟨by simp[h1],fun i hi=>?_⟩
    cases i with
    | zero=>simpa using hx
    | succ i=>simpa using h2 i (by simpa using hi)
theorem At.cells{w:World}{base b off n:Nat}{cs:List Value} (h:w.cells? base ⟨b,off,none⟩ n=some cs):cs.length=n∧At w b off cs:=by
 unfold World.cells? at h
 split at h
 ·have ob:=mapM_get h
  obtain⟨h1,h2⟩:=ob
  rw[List.length_range] at h1
  refine⟨h1,fun j v hj=>?_⟩
  have hlt:j<n:=by
   rw[←h1]
   exact(List.getElem?_eq_some_iff.1 hj).1
  have:=h2 j (by simpa using hlt)
  rw[List.getElem_range,hj,add_off] at this
  exact this
 ·cases h
theorem choose_any{α:Type}{p:Nat→α→Prop}:∀n:Nat,(∀i,i<n→∃x,p i x)→∃l:List α,l.length=n∧∀(i:Nat) (h:i<l.length),p i l[i]
 | 0,_=>⟨[],rfl,fun i h=>by simp at h⟩
 | n+1,h=>by
  have ob:=choose_any n fun i hi=>h i (by omega)
  obtain⟨l,hl,hp⟩:=ob
  have ob:=h n (by omega)
  obtain⟨x,hx⟩:=ob
  refine⟨l++[x],by simp[hl],fun i hi=>?_⟩
  by_cases hin:i<l.length
  ·rw[List.getElem_append_left hin];exact hp i hin
  ·have:i=l.length:=by simp at hi;omega
   subst this
   simp[hl]
   rw[hl] at *
   exact hx
theorem cell_spot{w:World}{a:Addr}{v:Value} (h:w.cell? a=some v):a.spot=none:=by
 unfold World.cell? at h
 split at h
 ·split at h
  ·cases h
  ·rename_i hs
   cases hsp:a.spot with
   | none=>rfl
   | some s=>rw[hsp] at hs;simp at hs
 ·cases h
theorem cells_spot{w:World}{base n:Nat}{a:Addr}{cs:List Value} (h:w.cells? base a n=some cs) (hn:0<n):a.spot=none:=by
 unfold World.cells? at h
 split at h
 ·have ob:=mapM_get h
  obtain⟨h1,h2⟩:=ob
  rw[List.length_range] at h1
  have h3:=h2 0 (by simpa using hn)
  rw[List.getElem_range,List.getElem?_eq_getElem (by omega)] at h3
  exact cell_spot (a:=a.add 0) h3
 ·cases h
section
variable{H:Type}{enc:TypeId×Value→H}{w:World}{spare:Nat→Bool}{held:Bool}
theorem trodAll_stays{P:Program} (hl:laidOutB P=true){W W':World} (hb:Below W.heap.size W W'):∀{ts:List TypeId}{vs:List Value}{ds:List (DataW H)}{p:List MemPlace},
  DataW.TrodAll enc P W 0 (fun _=>true) true ts vs ds p→(∀x∈p,x.block<W.heap.size)→(∀t∈ts,P.readableRec t=true∧t<P.types.size)→DataW.TrodAll enc P W' 0 (fun b=>decide (b<W.heap.size)) true ts vs ds p
 | [],vs,ds,p,h,_,_=>by
  have ob:=trodAll_nil h
  obtain⟨rfl,rfl,rfl⟩:=ob
  exact trodAll_mk0
 | t::ts,vs,ds,p,h,hlt,hr=>by
  have ob:=trodAll_cons h
  obtain⟨v,vs',d,ds',p',q,rfl,rfl,rfl,h0,h1⟩:=ob
  exact trodAll_cons_mk (Below.trod hl (hr t (by simp)).1 (hr t (by simp)).2 h0 hb (fun x hx=>hlt x (by simp[hx]))) (trodAll_stays hl hb h1 (fun x hx=>hlt x (by simp[hx])) (fun t ht=>hr t (by simp[ht])))
theorem open_i64{v:Value}{d:DataW H}{ps:List MemPlace}{r:Reach}{b0:Nat}{base:Nat} (hval:Value.okWide Tryz.prog w r b0 3 v) (h:DataW.Trod enc Tryz.prog w base spare held 3 v d ps):∃n:Int,v=.int .i64 n∧-9223372036854775808≤n∧n≤9223372036854775807:=by
 have ob:=open_int u3 hval h
 obtain⟨n,rfl,_,_,hw⟩:=ob
 simp only[Lit.wf,Bool.and_eq_true,decide_eq_true_eq] at hw
 have h0:(IntKind.i64).min = -9223372036854775808:=by decide
 have h255:(IntKind.i64).max=9223372036854775807:=by decide
 rw[h0,h255] at hw
 exact⟨n,rfl,hw.1,hw.2⟩
end
def i64s (n:Int):Prop:=-9223372036854775808≤n∧n≤9223372036854775807
theorem lit_i64{n:Int} (h:(Lit.int .i64 n).wf=true):i64s n:=by
 simp only[Lit.wf,Bool.and_eq_true,decide_eq_true_eq] at h
 have h0:(IntKind.i64).min = -9223372036854775808:=by decide
 have h255:(IntKind.i64).max=9223372036854775807:=by decide
 rw[h0,h255] at h
 exact h
theorem icells3{cs:List Value}{p v:Value}{o:Bool} (hl:cs.length=3) (h0:(cs.drop 0).take 1=[p]) (h1:(cs.drop 1).take 1=[.bool o]) (h2:(cs.drop 2).take 1=[v]):cs=[p,.bool o,v]:=by
 match cs,hl with
 | [a0,a1,a2],_=>
  have e0:a0=p:=by simpa using h0
  have e1:a1=.bool o:=by simpa using h1
  have e2:a2=v:=by simpa using h2
  rw[e0,e1,e2]
theorem icells3' {cs:List Value}{p q v:Value} (hl:cs.length=3) (h0:(cs.drop 0).take 1=[p]) (h1:(cs.drop 1).take 1=[q]) (h2:(cs.drop 2).take 1=[v]):cs=[p,q,v]:=by
 match cs,hl with
 | [a0,a1,a2],_=>
  have e0:a0=p:=by simpa using h0
  have e1:a1=q:=by simpa using h1
  have e2:a2=v:=by simpa using h2
  rw[e0,e1,e2]
theorem flat_lens{α:Type}{c:α→List Value}{sz:Nat}:∀l:List α,(∀y∈l,(c y).length=sz)→(l.flatMap c).length=l.length*sz
 | [],_=>(Nat.zero_mul _).symm
 | x::l,h=>by
  rw[List.flatMap_cons,List.length_append,h x (by simp),flat_lens l fun y hy=>h y (by simp[hy]),List.length_cons,Nat.succ_mul,Nat.add_comm]
theorem At.joins{α:Type}{c:α→List Value}{sz:Nat}{w:World}{b:Nat}:∀(l:List α) (off:Nat),(∀y∈l,(c y).length=sz)→(∀(i:Nat) (h:i<l.length),At w b (off+i*sz) (c l[i]))→At w b off (l.flatMap c)
 | [],_,_,_=>At.nil
 | x::l,off,hl,h=>by
  have h1:=h 0 (by simp)
  have hx:=hl x (by simp)
  have h2:=At.joins (c:=c) (sz:=sz) l (off+sz) (fun y hy=>hl y (by simp[hy])) (fun i hi=>by
   have:=h (i+1) (by simpa using hi)
   rw[show off+sz+i*sz=off+(i+1)*sz by rw[Nat.succ_mul];omega]
   simpa using this)
  intro j v hj
  rw[List.flatMap_cons,List.getElem?_append] at hj
  split at hj
  ·have:=h1 j v hj
   simpa using this
  ·rw[hx] at hj
   have:=h2 (j - sz) v hj
   rename_i hlt
   rw[hx] at hlt
   rwa [show off+sz+(j - sz)=off+j by omega] at this
section
variable{H:Type}{enc:TypeId×Value→H}{w:World}{base:Nat}{spare:Nat→Bool}{held:Bool}{N:Nat}
theorem trod_bytes{fuel:Nat}{cs:List Value}{x:DataW H×List MemPlace} (h:DataW.trod enc Tryz.prog w base spare held fuel 76 cs=some x):∃v s,cs=[v]∧Sl w 1 v s.length (u8s s)∧Room v∧s.length≤9223372036854775807:=by
 have hc1:Tryz.prog.cellsOf 5=1:=ty5.cellsOf
 rcases ChangeShapes.open_ints (k:=.u8) u76 u5 hc1 h with⟨hc,_⟩ | ⟨a,len,cap,zs,hc,_,hlc,hcm,hm,hx,hi,hwf⟩
 ·exact⟨_,[],hc,Sl.nil _ _ _,Nat.le_refl 0,by simp⟩
 ·have hmx:maxLen=9223372036854775807:=by decide
  by_cases h0:len=0
  ·subst h0
   exact⟨_,[],hc,⟨rfl,.inl ⟨_,_,rfl,rfl⟩⟩,Nat.zero_le _,by simp⟩
  have hle:len≤zs.length:=by rw[hm];split <;> omega
  have hspot:a.spot=none:=cell_spot (a:=a.add 0) (hi 0 (by omega))
  obtain⟨b,off,sp⟩:=a
  simp only at hspot
  subst hspot
  have hval8:∀n∈zs,∃c:UInt8,n=c.toNat:=fun n hn=>by
   have hw:=hwf n hn
   simp only[Lit.wf,Bool.and_eq_true,decide_eq_true_eq] at hw
   have h0:(IntKind.u8).min=0:=by decide
   have h255:(IntKind.u8).max=255:=by decide
   rw[h0,h255] at hw
   refine⟨UInt8.ofNat n.toNat,?_⟩
   rw[UInt8.toNat_ofNat_of_lt' (show n.toNat<256 by omega)]
   omega
  have hu:((zs.take len).map fun n=>Value.int .u8 n)=u8s ((zs.take len).map fun n=>UInt8.ofNat n.toNat):=by
   unfold u8s
   rw[List.map_map]
   apply List.map_congr_left
   intro n hn
   have ob:=hval8 n (List.mem_of_mem_take hn)
   obtain⟨c,rfl⟩:=ob
   simp
  refine⟨_,(zs.take len).map fun n=>UInt8.ofNat n.toNat,hc,?_,hlc,by simp;omega⟩
  have hl2:((zs.take len).map fun n=>UInt8.ofNat n.toNat).length=len:=by simp;omega
  rw[hl2]
  refine .mk (by simp[u8s];omega) ?_
  rw[←hu]
  intro j v hj
  rw[List.getElem?_map] at hj
  cases hz:(zs.take len)[j]? with
  | none=>rw[hz] at hj;cases hj
  | some n=>
   rw[hz] at hj
   obtain rfl:Value.int .u8 n=v:=by simpa using hj
   have hjl:j<len:=by
    have:=(List.getElem?_eq_some_iff.1 hz).1
    simp at this
    omega
   have h2:=hi j (by omega)
   rw[add_off] at h2
   rw[h2]
   rw[List.getElem?_take,if_pos hjl] at hz
   simp[List.getD,hz]
theorem trod_dig{fuel:Nat}{cs:List Value}{x:DataW H×List MemPlace} (h:DataW.trod enc Tryz.prog w base spare held fuel 44 cs=some x):∃d:List UInt8,d.length=32∧cs=u8s d:=by
 have ob:=DataW.trod_array u44 h
 obtain⟨xs,m,rfl,_,hl,hxl,hi⟩:=ob
 have hl32:cs.length=32:=hl.trans ty44.cellsOf
 have each:∀(i:Nat) (h:i<cs.length),∃c:UInt8,cs[i]=.int .u8 c.toNat:=fun i hlt=>by
  have h1:=hi i (by omega)
  rw[List.getElem?_eq_getElem (by omega)] at h1
  have hc:Tryz.prog.cellsOf 5=1:=ty5.cellsOf
  rw[hc,Nat.mul_one] at h1
  have ob:=DataW.trod_int u5 h1
  obtain⟨n,hn,_,hw⟩:=ob
  simp only[Lit.wf,Bool.and_eq_true,decide_eq_true_eq] at hw
  have h0:(IntKind.u8).min=0:=by decide
  have h255:(IntKind.u8).max=255:=by decide
  rw[h0,h255] at hw
  refine⟨UInt8.ofNat n.toNat,?_⟩
  have:cs[i]=.int .u8 n:=by
   rw[List.drop_eq_getElem_cons hlt] at hn
   exact(List.cons.inj hn).1
  rw[this,UInt8.toNat_ofNat_of_lt' (show n.toNat<256 by omega)]
  congr 1
  omega
 refine⟨(List.range 32).map fun i=>if h:i<cs.length then Classical.choose (each i h) else 0,by simp,?_⟩
 apply List.ext_getElem
 ·simp[u8s,hl32]
 ·intro i h1 h2
  have:=Classical.choose_spec (each i h1)
  simp[u8s,h1]
  exact this
theorem trod_ent{fuel:Nat}{cs:List Value}{x:DataW H×List MemPlace} (h:DataW.trod enc Tryz.prog w base spare held fuel 115 cs=some x):∃y:Ent,y.ok∧cs=y.cells:=by
 have ob:=trod_struct3 u115 h
 obtain⟨y0,y1,y2,n,rfl,hl,h0,h1,h2⟩:=ob
 have hl34:cs.length=34:=hl.trans ty115.cellsOf
 have c9:Tryz.prog.cellsOf 9=1:=ty9.cellsOf
 have c3:Tryz.prog.cellsOf 3=1:=ty3.cellsOf
 have c46:Tryz.prog.cellsOf 44=32:=ty44.cellsOf
 have ob:=DataW.trod_string u9 h0
 obtain⟨s,hs,hx0,hsz⟩:=ob
 have ob:=DataW.trod_int u3 h1
 obtain⟨k,hk,_,hw⟩:=ob
 have ob:=trod_dig h2
 obtain⟨d,hd,hdd⟩:=ob
 rw[c9] at hs
 rw[c3] at hk
 rw[c46] at hdd
 simp only[Lit.wf,Bool.and_eq_true,decide_eq_true_eq] at hw
 have h0:(IntKind.i64).min = -9223372036854775808:=by decide
 have h255:(IntKind.i64).max=9223372036854775807:=by decide
 rw[h0,h255] at hw
 have hmx:maxLen=9223372036854775807:=by decide
 refine⟨⟨s.data.toList,k,d⟩,⟨hd,hw.1,hw.2,?_⟩,?_⟩
 ·show s.data.size≤_
  have:s.data.size=s.size:=rfl
  omega
 ·match cs,hl34 with
  | a::b::r,hl34=>
   have ha:a=.string s:=by simpa using hs
   have hb:b=.int .i64 k:=by simpa using hk
   have hr:r=u8s d:=by
    have:r.take 32=u8s d:=by simpa using hdd
    rwa [List.take_of_length_le (by simp at hl34;omega)] at this
   rw[ha,hb,hr]
   rfl
theorem open_many{α:Type}{st t:TypeId}{sz:Nat}{c:α→List Value}{Ok:α→Prop} (hu:Tryz.prog.underlying st=some (.slice t)) (hc:Tryz.prog.cellsOf t=sz) (hsz:0<sz) (hlen:∀y,Ok y→(c y).length=sz)
  (el:∀{fuel:Nat}{cs:List Value}{x:DataW H×List MemPlace},DataW.trod enc Tryz.prog w base spare held fuel t cs=some x→Rows.uptoBulk x.1≤N→∃y,Ok y∧cs=c y)
  {fuel:Nat}{cs:List Value}{x:DataW H×List MemPlace} (h:DataW.trod enc Tryz.prog w base spare held fuel st cs=some x) (hN:Rows.uptoBulk x.1≤N) :
  ∃(v:Value) (l:List α),cs=[v]∧Sl w sz v l.length (l.flatMap c)∧(∀y∈l,Ok y)∧Room v∧l.length≤9223372036854775807:=by
 rcases open_slice hu h with⟨rfl,_⟩ | ⟨a,len,cap,m,n,D,Pl,rfl,_,hlc,hcm,hm,rfl,hi⟩
 ·exact⟨_,[],rfl,Sl.nil _ _ _,fun x hx=>(by cases hx),Nat.le_refl 0,by simp⟩
 ·have hmx:maxLen=9223372036854775807:=by decide
  have hle:len≤m:=by rw[hm];split <;> omega
  have hlen2:=bulk_len ((List.range len).map D)
  simp only[List.length_map,List.length_range] at hlen2
  simp only[Rows.uptoBulk] at hN
  by_cases h0:len=0
  ·subst h0
   exact⟨_,[],rfl,⟨by simp,.inl ⟨_,_,rfl,rfl⟩⟩,fun x hx=>(by cases hx),hlc,by simp⟩
  have hspot:a.spot=none:=by
   have ob:=hi 0 (by omega)
   obtain⟨cs',h1,_⟩:=ob
   rw[hc] at h1
   have h5:=cells_spot (a:=a.add (0*sz)) h1 hsz
   revert h5
   cases h6:a.spot <;> simp[Addr.add,h6]
  obtain⟨b,off,sp⟩:=a
  simp only at hspot
  subst hspot
  obtain⟨l,hl,hp⟩:=choose_any (p:=fun i x=>Ok x∧At w b (off+i*sz) (c x)) len fun i hi'=>by
   have ob:=hi i (by omega)
   obtain⟨cs',h1,h2⟩:=ob
   rw[hc,add_off] at h1
   have h7:Rows.uptoBulk (D i)≤Rows.uptoBulkAll ((List.range len).map D):=bulk_mem (List.mem_map.2 ⟨i,by simp;omega,rfl⟩)
   have ob:=el h2 (by show Rows.uptoBulk (D i)≤N;omega)
   obtain⟨x,hxo,hxc⟩:=ob
   exact⟨x,hxo,hxc▸(At.cells h1).2⟩
  have hok:∀x∈l,Ok x:=fun x hx=>by
   have ob:=List.mem_iff_getElem.1 hx
   obtain⟨i,hi',rfl⟩:=ob
   exact(hp i hi').1
  have hj:=At.joins (w:=w) (b:=b) l off (fun y hy=>hlen y (hok y hy)) (fun i hi=>(hp i hi).2)
  refine⟨_,l,rfl,?_,hok,hlc,by omega⟩
  exact hl▸.mk (flat_lens l fun y hy=>hlen y (hok y hy)) hj
theorem trod_it{fuel:Nat}{cs:List Value}{x:DataW H×List MemPlace} (h:DataW.trod enc Tryz.prog w base spare held fuel 155 cs=some x) (hN:Rows.uptoBulk x.1≤N):∃y:It,(y.Ok w∧y.p.length≤N)∧cs=itC y.p y.d y.v:=by
 have ob:=DataW.trod_struct u155 h
 obtain⟨xs,m,_,hxe,hl,hlen,hf⟩:=ob
 have hl3:cs.length=3:=hl.trans ty155.cellsOf
 match xs,hlen,hxe with
 | [y0,y1,y2],_,hxe=>
  have f0:=hf 0 _ rfl
  have f1:=hf 1 _ rfl
  have f2:=hf 2 _ rfl
  have ob:=DataW.trod_string u9 (f0.trans rfl)
  obtain⟨s,hs,hse,hsz⟩:=ob
  have ob:=DataW.trod_bool u4 (f1.trans rfl)
  obtain⟨o,ho,_⟩:=ob
  have ob:=trod_bytes (f2.trans rfl)
  obtain⟨vb,b,hb,hbs,hbr,hbl⟩:=ob
  replace hs:(cs.drop 0).take (Tryz.prog.cellsOf 9)=[.string s]:=hs
  replace ho:(cs.drop 1).take (Tryz.prog.cellsOf 4)=[.bool o]:=ho
  replace hb:(cs.drop 2).take (Tryz.prog.cellsOf 76)=[vb]:=hb
  rw[ty9.cellsOf] at hs
  rw[ty4.cellsOf] at ho
  rw[ty76.cellsOf] at hb
  have hmx:maxLen=9223372036854775807:=by decide
  refine⟨⟨s.data.toList,o,vb,b⟩,⟨⟨hbs,?_,hbl⟩,?_⟩,icells3 hl3 hs ho hb⟩
  ·show s.data.size≤_
   have:s.data.size=s.size:=rfl
   omega
  ·rw[hxe] at hN
   show s.data.toList.length≤_
   simp only[List.map_cons,List.map_nil,Rows.uptoBulk,Rows.uptoBulkAll,hse] at hN
   omega
theorem trod_int1{fuel:Nat}{cs:List Value}{x:DataW H×List MemPlace} (h:DataW.trod enc Tryz.prog w base spare held fuel 3 cs=some x):∃n:Int,i64s n∧cs=[.int .i64 n]:=by
 have ob:=DataW.trod_int u3 h
 obtain⟨n,hn,_,hw⟩:=ob
 exact⟨n,lit_i64 hw,hn⟩
theorem trod_plant{fuel:Nat}{cs:List Value}{x:DataW H×List MemPlace} (h:DataW.trod enc Tryz.prog w base spare held fuel 124 cs=some x):∃t:Int×Value×List UInt8,((-9223372036854775808≤t.1∧t.1≤9223372036854775807)∧Sl w 1 t.2.1 t.2.2.length (u8s t.2.2)∧Room t.2.1)∧cs=plC t:=by
 have ob:=DataW.trod_struct u124 h
 obtain⟨xs,m,_,hxe,hl,hlen,hf⟩:=ob
 have hl3:cs.length=2:=hl.trans ty124.cellsOf
 match xs,hlen with
 | [y0,y1],_=>
  have f0:=hf 0 _ rfl
  have f1:=hf 1 _ rfl
  have ob:=trod_int1 (f0.trans rfl)
  obtain⟨n,hn,h0⟩:=ob
  have ob:=trod_bytes (f1.trans rfl)
  obtain⟨vb,b,hb,hbs,hbr,hbl⟩:=ob
  replace h0:(cs.drop 0).take (Tryz.prog.cellsOf 3)=[.int .i64 n]:=h0
  replace hb:(cs.drop 1).take (Tryz.prog.cellsOf 76)=[vb]:=hb
  rw[ty3.cellsOf] at h0
  rw[ty76.cellsOf] at hb
  refine⟨⟨n,vb,b⟩,⟨hn,hbs,hbr⟩,?_⟩
  match cs,hl3 with
  | [a,c],_=>
   have e0:a=.int .i64 n:=by simpa using h0
   have e1:c=vb:=by simpa using hb
   rw[e0,e1];rfl
theorem flat1{α:Type} (c:α→Value) (l:List α):(l.flatMap fun t=>[c t])=l.map c:=by
 induction l with
 | nil=>rfl
 | cons x l ih=>rw[List.flatMap_cons,ih];rfl
theorem trod_setup{fuel:Nat}{cs:List Value}{x:DataW H×List MemPlace} (h:DataW.trod enc Tryz.prog w base spare held fuel 28 cs=some x) (hN:Rows.uptoBulk x.1≤1048576):∃y:Stup,y.Ok w∧cs=y.cells:=by
 have ob:=DataW.trod_struct u28 h
 obtain⟨xs,m,_,hxe,hl,hlen,hf⟩:=ob
 have hl6:cs.length=6:=hl.trans ty28.cellsOf
 match xs,hlen,hxe with
 | [y0,y1,y2,y3,y4,y5],_,hxe=>
  rw[hxe] at hN
  simp only[List.map_cons,List.map_nil,Rows.uptoBulk,Rows.uptoBulkAll] at hN
  have ob:=trod_int1 ((hf 0 _ rfl).trans rfl)
  obtain⟨n,hn,h0⟩:=ob
  have ob:=open_many (enc:=enc) (w:=w) (base:=base) (spare:=spare) (held:=held) (N:=1048576) (c:=fun t:Value×List It=>[t.1]) (Ok:=fun t=>Its w t.1 t.2∧Room t.1∧∀y∈t.2,y.p.length≤1048576) u22 ty65.cellsOf (by decide) (fun _ _=>rfl)
  obtain⟨vT,T,hT,sT,oT,-,-⟩:=ob
   (fun h hN=>by
    have ob:=open_many (enc:=enc) (w:=w) (base:=base) (spare:=spare) (held:=held) (N:=1048576) (c:=fun x:It=>itC x.p x.d x.v) (Ok:=fun y=>y.Ok w∧y.p.length≤1048576) u65 ty155.cellsOf (by decide) (fun _ _=>rfl) (fun h hN=>trod_it h hN) h hN
    obtain⟨v,l,hc,hs,ho,hr,hl⟩:=ob
    exact⟨(v,l),⟨⟨hs,fun x hx=>(ho x hx).1,hl⟩,hr,fun x hx=>(ho x hx).2⟩,hc⟩) ((hf 1 _ rfl).trans rfl) (by omega)
  have ob:=open_many (enc:=enc) (w:=w) (base:=base) (spare:=spare) (held:=held) (N:=1048576) (c:=fun t:Value×List Ent=>[t.1]) (Ok:=fun t=>Es w t.1 t.2∧Room t.1) u23 ty116.cellsOf (by decide) (fun _ _=>rfl)
  obtain⟨vN,K,hK,sK,oK,-,-⟩:=ob
   (fun h hN=>by
    have ob:=open_many (enc:=enc) (w:=w) (base:=base) (spare:=spare) (held:=held) (N:=1048576) (c:=Ent.cells) (Ok:=Ent.ok) u116 ty115.cellsOf (by decide) (fun _ h=>Ent.cells_len h) (fun h _=>trod_ent h) h hN
    obtain⟨v,l,hc,hs,ho,hr,hl⟩:=ob
    exact⟨(v,l),⟨⟨hs,ho,hl⟩,hr⟩,hc⟩) ((hf 2 _ rfl).trans rfl) (by omega)
  have ob:=open_many (enc:=enc) (w:=w) (base:=base) (spare:=spare) (held:=held) (N:=1048576) (c:=fun t:Value×List UInt8=>[t.1]) (Ok:=fun t=>Sl w 1 t.1 t.2.length (u8s t.2)∧Room t.1) u24 ty76.cellsOf (by decide) (fun _ _=>rfl)
  obtain⟨vB,B,hB,sB,oB,-,-⟩:=ob
   (fun h hN=>by
    have ob:=trod_bytes h
    obtain⟨v,b,hc,hs,hr,hl⟩:=ob
    exact⟨(v,b),⟨hs,hr⟩,hc⟩) ((hf 3 _ rfl).trans rfl) (by omega)
  have ob:=open_many (enc:=enc) (w:=w) (base:=base) (spare:=spare) (held:=held) (N:=1048576) (c:=fun z:Int=>[.int .i64 z]) (Ok:=i64s) u25 ty3.cellsOf (by decide) (fun _ _=>rfl) (fun h _=>trod_int1 h) ((hf 4 _ rfl).trans rfl) (by omega)
  obtain⟨vE,E,hE,sE,oE,-,-⟩:=ob
  have ob:=open_many (enc:=enc) (w:=w) (base:=base) (spare:=spare) (held:=held) (N:=1048576) (c:=plC) (Ok:=fun t=>(-9223372036854775808≤t.1∧t.1≤9223372036854775807)∧Sl w 1 t.2.1 t.2.2.length (u8s t.2.2)∧Room t.2.1) u26 ty124.cellsOf (by decide) (fun _ _=>rfl) (fun h _=>trod_plant h) ((hf 5 _ rfl).trans rfl) (by omega)
  obtain⟨vP,P,hP,sP,oP,-,-⟩:=ob
  rw[flat1] at sT sK sB sE
  refine⟨⟨n,vT,T,vN,K,vB,B,vE,E,vP,P⟩,⟨hn,sT,fun t ht=>⟨(oT t ht).1,(oT t ht).2.1,fun y hy=>Nat.lt_of_le_of_lt ((oT t ht).2.2 y hy) (by decide)⟩,sK,oK,sB,oB,sE,oE,sP,oP⟩,?_⟩
  replace h0:(cs.drop 0).take (Tryz.prog.cellsOf 3)=[.int .i64 n]:=h0
  replace hT:(cs.drop 1).take (Tryz.prog.cellsOf 22)=[vT]:=hT
  replace hK:(cs.drop 2).take (Tryz.prog.cellsOf 23)=[vN]:=hK
  replace hB:(cs.drop 3).take (Tryz.prog.cellsOf 24)=[vB]:=hB
  replace hE:(cs.drop 4).take (Tryz.prog.cellsOf 25)=[vE]:=hE
  replace hP:(cs.drop 5).take (Tryz.prog.cellsOf 26)=[vP]:=hP
  rw[ty3.cellsOf] at h0
  rw[ty22.cellsOf] at hT
  rw[ty23.cellsOf] at hK
  rw[ty24.cellsOf] at hB
  rw[ty25.cellsOf] at hE
  rw[ty26.cellsOf] at hP
  match cs,hl6 with
  | [a0,a1,a2,a3,a4,a5],_=>
   have e0:a0=.int .i64 n:=by simpa using h0
   have e1:a1=vT:=by simpa using hT
   have e2:a2=vN:=by simpa using hK
   have e3:a3=vB:=by simpa using hB
   have e4:a4=vE:=by simpa using hE
   have e5:a5=vP:=by simpa using hP
   rw[e0,e1,e2,e3,e4,e5];rfl
theorem open_setup{v:Value}{d:DataW H}{ps:List MemPlace}{r:Reach}{b0:Nat} (hval:Value.okWide Tryz.prog w r b0 28 v) (h:DataW.Trod enc Tryz.prog w base spare held 28 v d ps):Rows.uptoBulk d≤1048576→∃x:Stup,v=.agg x.cells.toArray∧x.Ok w:=fun hN=>by
 obtain⟨fuel,h⟩:=h
 have ob:=trod_setup h hN
 obtain⟨x,hx,hc⟩:=ob
 refine⟨x,?_,hx⟩
 cases v with
 | agg cs=>
  have:cs.toList=x.cells:=hc
  rw[←this]
 | _=>exfalso;simp[Value.okWide,Cell.okWide] at hval
theorem trod_room{fuel:Nat}{cs:List Value}{x:DataW H×List MemPlace} (h:DataW.trod enc Tryz.prog w base spare held fuel 30 cs=some x):∃a b c:Int,cs=[.int .i64 a,.int .i64 b,.int .i64 c]∧i64s a∧i64s b∧i64s c:=by
 have ob:=DataW.trod_struct u30 h
 obtain⟨xs,m,_,hxe,hl,hlen,hf⟩:=ob
 have hl3:cs.length=3:=hl.trans ty30.cellsOf
 match xs,hlen with
 | [y0,y1,y2],_=>
  have ob:=trod_int1 ((hf 0 _ rfl).trans rfl)
  obtain⟨a,ha,h0⟩:=ob
  have ob:=trod_int1 ((hf 1 _ rfl).trans rfl)
  obtain⟨b,hb,h1⟩:=ob
  have ob:=trod_int1 ((hf 2 _ rfl).trans rfl)
  obtain⟨c,hc,h2⟩:=ob
  replace h0:(cs.drop 0).take (Tryz.prog.cellsOf 3)=[.int .i64 a]:=h0
  replace h1:(cs.drop 1).take (Tryz.prog.cellsOf 3)=[.int .i64 b]:=h1
  replace h2:(cs.drop 2).take (Tryz.prog.cellsOf 3)=[.int .i64 c]:=h2
  rw[ty3.cellsOf] at h0 h1 h2
  exact⟨a,b,c,icells3' hl3 h0 h1 h2,ha,hb,hc⟩
theorem open_room{v:Value}{d:DataW H}{ps:List MemPlace}{r:Reach}{b0:Nat} (hval:Value.okWide Tryz.prog w r b0 30 v) (h:DataW.Trod enc Tryz.prog w base spare held 30 v d ps):∃a b c:Int,v=.agg #[.int .i64 a,.int .i64 b,.int .i64 c]∧i64s a∧i64s b∧i64s c:=by
 obtain⟨fuel,h⟩:=h
 have ob:=trod_room h
 obtain⟨a,b,c,hx,ha,hb,hc⟩:=ob
 refine⟨a,b,c,?_,ha,hb,hc⟩
 cases v with
 | agg cs=>
  have:cs.toList=[.int .i64 a,.int .i64 b,.int .i64 c]:=hx
  rw[←Array.toArray_toList (xs:=cs),this]
 | _=>exfalso;simp[Value.okWide,Cell.okWide] at hval
end
end Go.Gx
namespace Go.Gx
inductive Goes (P:List UInt8→List (List UInt8)):List (List UInt8)→List (List UInt8)→List (List UInt8)→List (List UInt8)→List (List UInt8)→Nat→Prop
 | nil (g o:List (List UInt8)):Goes P [] g o g o 0
 | skip{d:List UInt8}{ds g o g' o':List (List UInt8)}{k:Nat}:d∈g→Goes P ds g o g' o' k→Goes P (d::ds) g o g' o' (k+1)
 | go{d:List UInt8}{ds g o g1 o1 g' o':List (List UInt8)}{k1 k2:Nat}:d∉g→Goes P (P d) (g++[d]) o g1 o1 k1→Goes P ds g1 (o1++[d]) g' o' k2→Goes P (d::ds) g o g' o' (k1+k2+2)
section
variable{P:List UInt8→List (List UInt8)}{ds g o g' o' U:List (List UInt8)}{k:Nat}
theorem Goes.ext (h:Goes P ds g o g' o' k):∃n t,g'=g++n∧o'=o++t∧t.Perm n:=by
 induction h with
 | nil g o=>exact⟨[],[],by simp,by simp,.refl _⟩
 | skip _ _ ih=>exact ih
 | @go d ds g o g1 o1 g' o' k1 k2 _ _ _ i1 i2=>
  obtain⟨n1,t1,rfl,rfl,p1⟩:=i1
  obtain⟨n2,t2,rfl,rfl,p2⟩:=i2
  refine⟨d::(n1++n2),t1++d::t2,by simp,by simp,?_⟩
  exact List.perm_middle.trans ((p1.append p2).cons d)
theorem Goes.keep (h:Goes P ds g o g' o' k):∀x∈g,x∈g':=fun x hx=>by
 have ob:=h.ext
 obtain⟨n,t,rfl,_⟩:=ob
 exact List.mem_append_left _ hx
theorem Goes.nodup (h:Goes P ds g o g' o' k):g.Nodup→g'.Nodup:=by
 induction h with
 | nil g o=>exact id
 | skip _ _ ih=>exact ih
 | @go d ds g o g1 o1 g' o' k1 k2 hd _ _ i1 i2=>
  refine fun hg=>i2 (i1 ?_)
  rw[List.nodup_append]
  refine⟨hg,List.nodup_cons.2 ⟨by simp,List.nodup_nil⟩,fun a ha b hb he=>?_⟩
  rw[List.mem_singleton] at hb
  exact hd (hb▸he▸ha)
theorem Goes.sub (hP:∀d∈U,∀x∈P d,x∈U) (h:Goes P ds g o g' o' k):(∀x∈ds,x∈U)→(∀x∈g,x∈U)→∀x∈g',x∈U:=by
 induction h with
 | nil g o=>exact fun _ hg=>hg
 | skip _ _ ih=>exact fun hd hg=>ih (fun x hx=>hd x (by simp[hx])) hg
 | @go d ds g o g1 o1 g' o' k1 k2 hd _ _ i1 i2=>
  intro hds hg
  have hdU:=hds d (by simp)
  refine i2 (fun x hx=>hds x (by simp[hx])) (i1 (hP d hdU) fun x hx=>?_)
  rcases List.mem_append.1 hx with hx | hx
  ·exact hg x hx
  ·rw[List.mem_singleton] at hx;exact hx▸hdU
def leftG (U g:List (List UInt8)):Nat:=(U.filter fun x=>decide (x∉g)).length
theorem leftG_mono{g1:List (List UInt8)} (h:∀x∈g,x∈g1):∀U,leftG U g1≤leftG U g
 | []=>Nat.le_refl _
 | x::U=>by
  have ih:=leftG_mono h U
  unfold leftG at ih⊢
  rw[List.filter_cons,List.filter_cons]
  by_cases h1:x∈g
  ·simpa[h1,h x h1] using ih
  ·by_cases h2:x∈g1
   ·simp[h1,h2];simp at ih;omega
   ·simp[h1,h2];simp at ih;omega
theorem leftG_lt{d:List UInt8} (hd:d∉g):∀{U},d∈U→leftG U (g++[d])<leftG U g
 | [],h=>by cases h
 | x::U,h=>by
  have hm:=leftG_mono (g:=g) (g1:=g++[d]) (fun x hx=>by simp[hx]) U
  by_cases hx:x=d
  ·subst hx
   unfold leftG at hm⊢
   rw[List.filter_cons,List.filter_cons,if_neg (by simp),if_pos (by simp[hd]),List.length_cons]
   omega
  ·have ih:=leftG_lt hd (U:=U) (by
    rcases List.mem_cons.1 h with h | h
    ·exact absurd h.symm hx
    ·exact h)
   unfold leftG at ih⊢
   rw[List.filter_cons,List.filter_cons]
   by_cases h1:x∈g
   ·simpa[h1] using ih
   ·simp only[List.mem_append,List.mem_singleton,h1,hx,or_self,not_false_eq_true,decide_true,if_true,List.length_cons]
    simp only[List.mem_append,List.mem_singleton] at ih
    omega
theorem goes_all (hP:∀d∈U,∀x∈P d,x∈U):∀(n:Nat) (ds g o:List (List UInt8)),leftG U g≤n→(∀x∈ds,x∈U)→∃g' o' k,Goes P ds g o g' o' k
 | n,[],g,o,_,_=>⟨g,o,0,.nil g o⟩
 | n,d::ds,g,o,hn,hds=>by
  have hdU:=hds d (by simp)
  by_cases hd:d∈g
  ·have ob:=goes_all hP n ds g o hn fun x hx=>hds x (by simp[hx])
   obtain⟨g',o',k,h⟩:=ob
   exact⟨g',o',k+1,.skip hd h⟩
  ·have hlt:=leftG_lt hd hdU
   match n,hn with
   | 0,hn=>omega
   | n+1,hn=>
    have ob:=goes_all hP n (P d) (g++[d]) o (by omega) (hP d hdU)
    obtain⟨g1,o1,k1,h1⟩:=ob
    have hm:=leftG_mono h1.keep U
    have ob:=goes_all hP n ds g1 (o1++[d]) (by omega) fun x hx=>hds x (by simp[hx])
    obtain⟨g2,o2,k2,h2⟩:=ob
    exact⟨g2,o2,_,.go hd h1 h2⟩
termination_by n ds=>(n,ds.length)
theorem nodup_len:∀{g U:List (List UInt8)},g.Nodup→(∀x∈g,x∈U)→g.length≤U.length
 | [],_,_,_=>Nat.zero_le _
 | x::g,U,hn,hs=>by
  have h1:=nodup_len (g:=g) (U:=U.erase x) (List.nodup_cons.1 hn).2 fun y hy=>by
   have hne:y≠x:=fun h=>(List.nodup_cons.1 hn).1 (h▸hy)
   exact(List.mem_erase_of_ne hne).2 (hs y (by simp[hy]))
  have h2:=List.length_erase_of_mem (hs x (by simp))
  have h3:=List.length_pos_of_mem (hs x (by simp))
  rw[List.length_cons]
  omega
inductive Fin (P:List UInt8→List (List UInt8)) (gf of:List (List UInt8)):List (List UInt8×Nat)→List (List UInt8)→List (List UInt8)→Nat→Prop
 | nil:Fin P gf of [] gf of 0
 | cons{d:List UInt8}{n:Nat}{S:List (List UInt8×Nat)}{g o g1 o1:List (List UInt8)}{k K:Nat}:n≤(P d).length→Goes P ((P d).drop n) g o g1 o1 k→Fin P gf of S g1 (o1++[d]) K→Fin P gf of ((d,n)::S) g o (k+K+1)
theorem Fin.root{d:List UInt8}{gf of:List (List UInt8)} (h:Goes P [d] [] [] gf of k):∃K,Fin P gf of [(d,0)] [d] [] K:=by
 cases h with
 | skip h _=>cases h
 | go _ h1 h2=>
  cases h2
  exact⟨_,.cons (Nat.zero_le _) h1 .nil⟩
theorem Fin.done{d:List UInt8}{n K:Nat}{S:List (List UInt8×Nat)}{gf of:List (List UInt8)} (h:Fin P gf of ((d,n)::S) g o K) (hn:n=(P d).length):∃K',K'<K∧Fin P gf of S g (o++[d]) K':=by
 cases h with
 | @cons _ _ _ _ _ g1 o1 k K' _ h1 h2=>
  rw[hn,List.drop_length] at h1
  cases h1
  exact⟨_,by omega,h2⟩
theorem Fin.step{d x:List UInt8}{n K:Nat}{S:List (List UInt8×Nat)}{gf of:List (List UInt8)} (h:Fin P gf of ((d,n)::S) g o K) (hx:(P d)[n]?=some x) :
  ∃K',K'<K∧if x∈g then Fin P gf of ((d,n+1)::S) g o K' else Fin P gf of ((x,0)::(d,n+1)::S) (g++[x]) o K':=by
 cases h with
 | @cons _ _ _ _ _ g1 o1 k K' hn h1 h2=>
  have ob:=List.getElem?_eq_some_iff.1 hx
  obtain⟨hlt,rfl⟩:=ob
  rw[List.drop_eq_getElem_cons hlt] at h1
  cases h1 with
  | @skip _ _ _ _ _ _ k hm h1=>exact⟨k+K'+1,by omega,by rw[if_pos hm];exact .cons hlt h1 h2⟩
  | @go _ _ _ _ g3 o3 _ _ k1 k2 hm h1 h3=>exact⟨k1+(k2+K'+1)+1,by omega,by rw[if_neg hm];exact .cons (Nat.zero_le _) h1 (.cons hlt h3 h2)⟩
theorem Fin.le{d:List UInt8}{n K:Nat}{S:List (List UInt8×Nat)}{gf of:List (List UInt8)} (h:Fin P gf of ((d,n)::S) g o K):n≤(P d).length:=by
 cases h with
 | cons hn _ _=>exact hn
end
end Go.Gx
namespace Go.Gx
open Go.Proofs
section
variable{ops:Array Oper}{n:Nat}{rest:List Oper}{f:Slots}{ds:List Deferred}{w w0:World}{S:List Nat}{L:List (Nat×Obj)}{Q:Post}{ty:TypeId}{pos:String}{af:Array Edge}{x y k:Operand}{T E:TypeId}
theorem WL.mapIns{M:List (List UInt8×Value×Nat)}{d:List UInt8}{r clock:Nat}{v:Value} (ht:Tryz.prog.underlying T=some (.map 44 E)) (hx:ev f x=.map (some r)) (hk:ev f k=.agg (u8s d).toArray) (hy:ev f y=v)
  (hM:Keys32 M) (hd:d.length=32) (hs:Step S ((r,mapObj M clock)::L) w0 w) (h:∀w',Step S ((r,mapObj (putM d v clock M) (putC d clock M))::L) w0 w'→WL Tryz.prog ops Q n rest f ds w') :
  WL Tryz.prog ops Q n (⟨none,.insert T x k y,ty,pos,af,none⟩::rest) f ds w:=by
 refine WL.skip ?_ (h _ (hs.setO _))
 have h1:=run_putD (v:=v) ht hM hd hs.hd
 simp only[execOp,hx,hk,hy,Sem.run_bind,h1,Result.andThen_ok]
 rfl
end
structure SetD (M:DM) (g:List (List UInt8)):Prop where
 keys:Keys32 M
 val:∀d,valD d M=if d∈g then some (.agg #[]) else none
theorem SetD.nil:SetD [] []:=⟨(fun p hp=>by cases hp),fun d=>by rw[valD_nil];simp⟩
theorem SetD.look{M:DM}{g:List (List UInt8)} (h:SetD M g) (d:List UInt8):((findD d M 0).map (·.2)).getD (.agg #[])=.agg #[]∧(findD d M 0).isSome=decide (d∈g):=by
 have h1:=h.val d
 constructor
 ·show(valD d M).getD _=_
  rw[h1];split <;> rfl
 ·rw[valD_isSome,h1];by_cases hd:d∈g <;> simp[hd]
theorem SetD.put{M:DM}{g:List (List UInt8)}{d:List UInt8} (h:SetD M g) (hd:d.length=32) (c:Nat):SetD (putM d (.agg #[]) c M) (g++[d]):=⟨h.keys.put hd _ c,fun e=>by
 rw[valD_put]
 by_cases he:e=d
 ·subst he;simp
 ·rw[if_neg he,h.val]
  simp[he]⟩
def plC8 (x:List UInt8×Nat):List Value:=u8s x.1++[.int .i64 (x.2:Nat)]
theorem plC8_len{x:List UInt8×Nat} (h:x.1.length=32):(plC8 x).length=33:=by simp[plC8,u8s,h]
theorem plC8_c1 (x:List UInt8×Nat):Cells1 (plC8 x):=(Cells1.u8s _).append (Cells1.of_all rfl)
theorem bld_pl32 (a0 a1 a2 a3 a4 a5 a6 a7 a8 a9 a10 a11 a12 a13 a14 a15 a16 a17 a18 a19 a20 a21 a22 a23 a24 a25 a26 a27 a28 a29 a30 a31:UInt8) (z:Int) (w:World):(Instr.build 220 #[(0,.agg (u8s [a0,a1,a2,a3,a4,a5,a6,a7,a8,a9,a10,a11,a12,a13,a14,a15,a16,a17,a18,a19,a20,a21,a22,a23,a24,a25,a26,a27,a28,a29,a30,a31]).toArray),(1,.int .i64 z)]).run Tryz.prog w=.ok (.agg (u8s [a0,a1,a2,a3,a4,a5,a6,a7,a8,a9,a10,a11,a12,a13,a14,a15,a16,a17,a18,a19,a20,a21,a22,a23,a24,a25,a26,a27,a28,a29,a30,a31]++[Value.int .i64 z]).toArray) w:=by kernel_rfl
theorem bld_pl{d:List UInt8} (hd:d.length=32) (n:Nat) (w:World):(Instr.build 220 #[(0,.agg (u8s d).toArray),(1,.int .i64 (n:Nat))]).run Tryz.prog w=.ok (.agg (plC8 (d,n)).toArray) w:=by
 have ob:=cells32 hd
 obtain⟨a0,a1,a2,a3,a4,a5,a6,a7,a8,a9,a10,a11,a12,a13,a14,a15,a16,a17,a18,a19,a20,a21,a22,a23,a24,a25,a26,a27,a28,a29,a30,a31,rfl⟩:=ob
 exact bld_pl32 a0 a1 a2 a3 a4 a5 a6 a7 a8 a9 a10 a11 a12 a13 a14 a15 a16 a17 a18 a19 a20 a21 a22 a23 a24 a25 a26 a27 a28 a29 a30 a31 n w
theorem bld_p032 (a0 a1 a2 a3 a4 a5 a6 a7 a8 a9 a10 a11 a12 a13 a14 a15 a16 a17 a18 a19 a20 a21 a22 a23 a24 a25 a26 a27 a28 a29 a30 a31:UInt8) (w:World):(Instr.build 220 #[(0,.agg (u8s [a0,a1,a2,a3,a4,a5,a6,a7,a8,a9,a10,a11,a12,a13,a14,a15,a16,a17,a18,a19,a20,a21,a22,a23,a24,a25,a26,a27,a28,a29,a30,a31]).toArray)]).run Tryz.prog w=.ok (.agg (u8s [a0,a1,a2,a3,a4,a5,a6,a7,a8,a9,a10,a11,a12,a13,a14,a15,a16,a17,a18,a19,a20,a21,a22,a23,a24,a25,a26,a27,a28,a29,a30,a31]++[Value.int .i64 0]).toArray) w:=by kernel_rfl
theorem bld_p0{d:List UInt8} (hd:d.length=32) (w:World):(Instr.build 220 #[(0,.agg (u8s d).toArray)]).run Tryz.prog w=.ok (.agg (plC8 (d,0)).toArray) w:=by
 have ob:=cells32 hd
 obtain⟨a0,a1,a2,a3,a4,a5,a6,a7,a8,a9,a10,a11,a12,a13,a14,a15,a16,a17,a18,a19,a20,a21,a22,a23,a24,a25,a26,a27,a28,a29,a30,a31,rfl⟩:=ob
 exact bld_p032 a0 a1 a2 a3 a4 a5 a6 a7 a8 a9 a10 a11 a12 a13 a14 a15 a16 a17 a18 a19 a20 a21 a22 a23 a24 a25 a26 a27 a28 a29 a30 a31 w
theorem bld_none (w:World):(Instr.build 142 #[]).run Tryz.prog w=.ok (.agg #[]) w:=by kernel_rfl
theorem zNone (w:World):(zeroValue 142).run Tryz.prog w=.ok (.agg #[]) w:=by kernel_rfl
theorem zDigs (w:World):(zeroValue 35).run Tryz.prog w=.ok (.slice none 0 0) w:=by kernel_rfl
def partsM (s:AS) (m:List (List UInt8×Bool)) (d:List UInt8):List (List UInt8):=if (d,true)∈m then partsD s d else []
end Go.Gx
namespace Go.Gx
open Go.Proofs
attribute [local irreducible] shaL cutD frontL
theorem OwnSl.slH{E sz:Nat}{v:Value}{k:Nat}{xs:List Value}{Lv:List (Nat×Obj)}{w:World} (h:OwnSl E sz v k xs Lv) (hw:∀p∈Lv,w.heap[p.1]?=some p.2):Sl w sz v k xs:=by
 obtain⟨hl,⟨rfl,rfl,rfl⟩ | ⟨b,cap,more,rfl,rfl,hc⟩⟩:=h
 ·exact⟨hl,.inl ⟨none,0,rfl,rfl⟩⟩
 ·exact .mk hl (At.of_blk (hw (b,blk E (xs++more)) (by simp))).left
section
variable{S:List Nat}{a b c q:Nat×Obj}{T Lo X:List (Nat×Obj)}{w w':World}
theorem Step.bIn (h:Step S (a::b::(T++(q::Lo))) w w'):Step S (Lo++(a::b::q::T)) w w':=h.perm (by classical exact List.perm_iff_count.2 fun x=>by simp only[List.count_append,List.count_cons];omega)
theorem Step.bOut (h:Step S (Lo++(a::b::q::T)) w w'):Step S (T++(q::Lo)) w w':=Step.tail (p:=b) (Step.tail (p:=a) (h.perm (by classical exact List.perm_iff_count.2 fun x=>by simp only[List.count_append,List.count_cons];omega)))
theorem Step.bT (h:Step S (a::b::(T++X)) w w'):Step S (T++(a::b::X)) w w':=h.perm (List.perm_append_comm_assoc [a,b] T X)
theorem Step.bU (h:Step S (T++(a::b::X)) w w'):Step S (a::b::(T++X)) w w':=h.perm (List.perm_append_comm_assoc T [a,b] X)
theorem Step.bQ (h:Step S (a::b::c::(T++(q::Lo))) w w'):Step S (q::a::b::c::(T++Lo)) w w':=h.perm (by classical exact List.perm_iff_count.2 fun x=>by simp only[List.count_append,List.count_cons];omega)
theorem Step.bR (h:Step S (q::a::b::c::(T++Lo)) w w'):Step S (T++(q::a::b::c::Lo)) w w':=h.perm (by classical exact List.perm_iff_count.2 fun x=>by simp only[List.count_append,List.count_cons];omega)
theorem Step.bS (h:Step S (T++(q::a::b::c::Lo)) w w'):Step S (T++(q::Lo)) w w':=Step.tail (p:=c) (Step.tail (p:=b) (Step.tail (p:=a) (h.perm (by classical exact List.perm_iff_count.2 fun x=>by simp only[List.count_append,List.count_cons];omega))))
theorem Step.bW (h:Step S (a::b::c::(T++X)) w w'):Step S (T++X) w w':=h.tail.tail.tail
end
theorem Fin.nil_inv{P:List UInt8→List (List UInt8)}{gf of g o:List (List UInt8)}{K:Nat} (h:Fin P gf of [] g o K):o=of:=by cases h;rfl
theorem MapP.parts{s:AS}{D:List (Nat×Obj)}{m:List (List UInt8×Bool)}{M:DM}{w0:World} (h:MapP s D m M) (hw:∀p∈D,w0.heap[p.1]?=some p.2) (d:List UInt8) :
  ∃v,((findD d M 0).map (·.2)).getD (.slice none 0 0)=v∧Sl w0 32 v (partsM s m d).length (digsL (partsM s m d)):=by
 have h1:=h.val d
 cases hv:valD d M with
 | none=>
  rw[hv] at h1
  refine⟨.slice none 0 0,?_,?_⟩
  ·show(valD d M).getD _=_
   rw[hv];rfl
  ·rw[partsM,if_neg h1];exact Sl.nil _ _ _
 | some u=>
  rw[hv] at h1
  obtain⟨h2,Lv,h3,h4⟩:=h1
  refine⟨u,?_,?_⟩
  ·show(valD d M).getD _=_
   rw[hv];rfl
  ·rw[partsM,if_pos h2];exact h3.slH fun p hp=>hw p (h4 p hp)
section
variable{bm:Nat}{s:AS}{m:List (List UInt8×Bool)}{D W:List (Nat×Obj)}{w0:World}{r:List UInt8}{gf of:List (List UInt8)}{k:Nat}
set_option maxHeartbeats 4000000 in
theorem behind_spec (hM:MetRep bm s m D W) (hw:Lives (W++D) w0) (h32:∀d∈ordM m,d.length=32) (hPU:∀d∈ordM m,∀x∈partsM s m d,x∈ordM m) (hpl:∀d,(partsM s m d).length<1000000000) (hml:m.length≤65536) (hr:(ordM m)[0]?=some r) (hG:Goes (partsM s m) [r] [] [] gf of k) :
  Calls Tryz.prog 70 #[.pointer (some ⟨bm,0,none⟩)] w0 fun e w'=>∃v Lv,e=.returned v∧OwnSl 44 32 v of.length (digsL of) Lv∧Step [] Lv w0 w':=by
 obtain⟨vO,LO,q1,M1,c1,q2,M2,c2,rfl,hO,hB,hPm⟩:=hM
 have hol:=ordM_len m
 have hrU:=List.mem_of_getElem? hr
 have hr32:=h32 r hrU
 have hrl:(u8s r).length=32:=by rw[u8s,List.length_map,hr32]
 have h0:0<(ordM m).length:=(List.getElem?_eq_some_iff.1 hr).1
 have ob:=hO.some1 h0
 obtain⟨bo,co,more,ho1,ho2,ho3⟩:=ob
 subst ho1
 subst ho2
 have hs:Step [] [] w0 w0:=Step.refl w0
 have hatM:∀{w},Step [] [] w0 w→At w bm 0 [.slice (some ⟨bo,0,none⟩) (ordM m).length co,.map (some q1),.map (some q2)]:=fun h=>At.of_blk (h.old (hw.has (bm,blk 132 [.slice (some ⟨bo,0,none⟩) (ordM m).length co,.map (some q1),.map (some q2)]) (by simp)) (by simp))
 have hroot:∀{w},Step [] [] w0 w→At w bo (0+0*32) (u8s r):=fun h=>digsL_at h32 (At.of_blk (h.old (hw.has (bo,blk 44 (digsL (ordM m)++more)) (by simp)) (by simp))).left hr
 have hq2:∀{w},Step [] [] w0 w→w.heap[q2]?=some (mapObj M2 c2):=fun h=>h.old (hw.has (q2,mapObj M2 c2) (by simp)) (by simp)
 have hparts:=hPm.parts fun p hp=>hw.has p (by simp[hp])
 have ob:=Fin.root hG
 obtain⟨K0,hF0⟩:=ob
 refine calls (n:=79) Tryz.func70 rfl rfl rfl ?_
 refine sr<|wA<|wZ<|sr<|wA<|wZ<|sr<|WL.alloc ty217 rfl hs (fun b4 w hs=>?_)
 refine wZ ?_
 have hS0:Stk 217 220 33 b4 [] [(b4,blk 217 [.slice none 0 0])]:=⟨(fun c hc=>by cases hc),_,[],rfl,OwnSl.nil _ _⟩
 refine sr<|WL.makeMapD rfl hs (fun b12 w hs=>?_)
 refine wm<|wn rfl<|wF 0 u132 rfl ty35 rfl<|wl ty35 rfl ((hatM hs.clear).cell (j:=0) rfl)<|wV (run_ixSlN (i:=0) u35 ty44 rfl rfl (by omega))<|wV (run_loadN ty44 rfl hrl (hroot hs.clear))<|wV (run_build rfl (bld_none _))<|WL.mapIns u141 rfl rfl rfl SetD.nil.keys hr32 hs (fun w hs=>?_)
 refine wm<|wA<|wZ<|sr<|wm<|wn rfl<|wF 0 u132 rfl ty35 rfl<|wl ty35 rfl ((hatM hs.clear).cell (j:=0) rfl)<|wV (run_ixSlN (i:=0) u35 ty44 rfl rfl (by omega))<|wV (run_loadN ty44 rfl hrl (hroot hs.clear))<|wV (run_build rfl (bld_p0 hr32 _))<|wE rfl (run_call en118 rfl rfl) (pushplace_spec (c:=plC8 (r,0)) hS0 (plC8_len hr32) (plC8_c1 _) (by simp) (Lives.of (L1:=[_]) hs.swap)) ?_
 rintro e w ⟨T1,rfl,hS1,hq⟩
 refine⟨_,rfl,?_⟩
 replace hs:=Step.call (L1:=[_]) hs.swap hq
 refine wZ ?_
 have hSet0:SetD (putM r (.agg #[]) 0 []) [r]:=SetD.nil.put hr32 0
 refine cB<|CW.loop (fun z f w'=>∃S g o T Mg cg vo Lo,Fin (partsM s m) gf of S g o z∧(∀x∈S,x.1∈ordM m)∧S.length+o.length≤g.length∧g.Nodup∧(∀x∈g,x∈ordM m)∧SetD Mg g∧Stk 217 220 33 b4 (S.map plC8) T∧OwnSl 44 32 vo o.length (digsL o) Lo∧Step [] (T++((b12,mapObj Mg cg)::Lo)) w0 w'∧Holds f [(0,.pointer (some ⟨bm,0,none⟩)),(3,vo),(4,.pointer (some ⟨b4,0,none⟩)),(5,.map (some b12))]) (m:=K0) ?_ ?_
 ·exact⟨[(r,0)],[r],[],T1,_,_,_,[],hF0,fun x hx=>by obtain rfl:=List.mem_singleton.1 hx;exact hrU,by simp,by simp,fun x hx=>by obtain rfl:=List.mem_singleton.1 hx;exact hrU,hSet0,hS1,OwnSl.nil _ _,hs,rfl,rfl,rfl,rfl,trivial⟩
 clear hs hS1 hSet0
 rintro z f w ⟨S,g,o,T,Mg,cg,vo,Lo,hF,hSU,hlen,hnd,hgU,hSet,hS,ho,hs,hf⟩
 have ob:=hf.chain
 obtain⟨gg,rfl⟩:=ob
 have hgl:=nodup_len hnd hgU
 cases S with
 | nil=>
  have hof:=hF.nil_inv
  refine cB<|sr<|wE rfl (run_call en119 rfl rfl) (popplace_nil hS (Lives.of (L1:=T) hs)) ?_
  rintro e w ⟨zz,rfl,hz,hz1,hq⟩
  refine⟨_,rfl,?_⟩
  replace hs:=hs.callE hq
  refine wm<|wx rfl rfl<|wx rfl rfl<|WL.alloc ty220 rfl hs (fun b6 w hs=>?_)
  refine WL.storeAll ty220 rfl rfl ((hz)) ((hz1)) hs (by rfl) (fun w hs=>?_)
  refine wA<|wZ<|cq<|sr<|wm<|wV (run_not rfl)<|wZ<|CW.cond rfl (fun h=>?_) (fun h=>?_)
  ·refine sr<|wm<|wA<|wZ<|CW.ret ?_
   refine fin_ret1 rfl ?_
   exact⟨_,Lo,rfl,by rw[←hof];exact ho,Step.tail (Step.dropL (L1:=T) hs.tail)⟩
  ·cases h
 | cons x S'=>
  obtain⟨d,n⟩:=x
  have hdU:d∈ordM m:=hSU (d,n) (by simp)
  have hd32:=h32 d hdU
  have hdl:(u8s d).length=32:=by rw[u8s,List.length_map,hd32]
  have hcl:=plC8_len (x:=(d,n)) hd32
  have hcn:(plC8 (d,n))[32]?=some (.int .i64 (n:Nat)):=by show(u8s d++[Value.int .i64 (n:Nat)])[32]?=_;rw[List.getElem?_append_right (by omega),hdl];rfl
  have hnle:=hF.le
  have hpd:=hpl d
  rw[List.length_cons] at hlen
  have hSU':∀x∈S',x.1∈ordM m:=fun x hx=>hSU x (by simp[hx])
  have ob:=hparts d
  obtain⟨vp,hvp,hvs⟩:=ob
  have ob:=hvs.form
  obtain⟨pa,pc,rfl⟩:=ob
  refine cB<|sr<|wE rfl (run_call en119 rfl rfl) (popplace_spec (c:=plC8 (d,n)) (l:=S'.map plC8) hS (by rw[List.length_map];omega) (Lives.of (L1:=T) hs)) ?_
  rintro e w ⟨T2,rfl,hS2,hq⟩
  refine⟨_,rfl,?_⟩
  replace hs:=Step.call (L1:=T) hs hq
  refine wm<|wx rfl rfl<|wx rfl rfl<|WL.alloc ty220 rfl hs (fun b6 w hs=>?_)
  refine WL.storeAll ty220 rfl rfl ((hcl)) ((plC8_c1 _)) hs (by rfl) (fun w hs=>?_)
  refine wA<|wZ<|cq<|sr<|wm<|wV (run_not rfl)<|wZ<|CW.cond rfl (fun h=>?_) (fun h=>?_)
  ·cases h
  refine ck<|cq<|CW.quiet mixedP (by kernel_rfl) hs ?_
  refine qm<|qn rfl<|qF 2 u132 rfl ty130 rfl<|qV (fun w hs=>run_load1 ty130 rfl ((hatM hs.clear).cell (j:=2) rfl))<|qF 0 u220 rfl ty44 rfl<|qV (fun w hs=>run_loadN ty44 rfl hdl hs.a0.left)<|qV (fun w hs=>run_lookupV u130 (zDigs _) hPm.keys hd32 hvp rfl rfl (hq2 hs.clear))<|qV (fun w hs=>run_assign)<|QL.nil (fun w hs=>?_)
  by_cases hn:n=(partsM s m d).length
  ·have ob:=hF.done hn
   obtain⟨K',hK,hF2⟩:=ob
   refine cq<|sr<|wF 32 u220 rfl ty3 rfl<|wl ty3 rfl (hs.c0 hcn)<|wm<|wV (run_lenSl u35 rfl)<|wV (run_bT (run_eql rfl rfl) (by omega))<|wZ<|CW.cond rfl (fun h=>?_) (fun h=>?_)
   ·refine sr<|wm<|wF 0 u220 rfl ty44 rfl<|wV (run_loadN ty44 rfl hdl hs.a0.left)<|WL.buildSlice (cs:=u8s d) u35 ty44 rfl (by decide) rfl (filled1 hdl rfl) rfl hs (fun b51 w hs=>?_)
    have hsl51:Sl w 32 (.slice (some ⟨b51,0,none⟩) 1 1) 1 (u8s d):=.own1 hs (by rw[hdl])
    replace hs:=Step.bIn hs
    refine WL.append u35 u35 ty44 rfl (by decide) rfl rfl (ho) (hs) (hsl51) (Cells1.u8s _) (by omega) rfl (fun v52 Lv52 w hv52 hs=>?_)
    replace hs:=Step.bOut hs
    refine wA<|wZ ?_
    have ho2:OwnSl 44 32 v52 (o++[d]).length (digsL (o++[d])) Lv52:=by rw[List.length_append,digsL_snoc];exact hv52
    refine CW.exit<|(show _∧_ from⟨rfl,_,?_,S',g,o++[d],T2,Mg,cg,v52,Lv52,hF2,hSU',?_,hnd,hgU,hSet,hS2,ho2,hs,rfl,rfl,rfl,rfl,trivial⟩)
    ·exact hK
    ·rw[List.length_append,List.length_singleton];omega
   ·cases h
  ·have hnlt:n<(partsM s m d).length:=by omega
   have ob:∃x,(partsM s m d)[n]?=some x:=⟨_,List.getElem?_eq_getElem hnlt⟩
   obtain⟨x,hx⟩:=ob
   have hxU:=hPU d hdU x (List.mem_of_getElem? hx)
   have hx32:=h32 x hxU
   have hxl:(u8s x).length=32:=by rw[u8s,List.length_map,hx32]
   obtain⟨pb,po,pc2,hpe,hpat⟩:∃pb po pc2,Value.slice pa (partsM s m d).length pc=.slice (some ⟨pb,po,none⟩) (partsM s m d).length pc2∧At w0 pb po (digsL (partsM s m d)):=by
    obtain⟨_,⟨a,cc,h1,h2⟩ | ⟨b,off,cc,h1,h2⟩⟩:=hvs
    ·omega
    ·exact⟨b,off,cc,h1,h2⟩
   cases hpe
   have hxat:∀{w},Step [] [] w0 w→At w pb (po+n*32) (u8s x):=fun h=>digsL_at (fun y hy=>h32 y (hPU d hdU y hy)) (hpat.step h (by simp)) hx
   have ob:=hF.step hx
   obtain⟨K',hK,hF2⟩:=ob
   refine cq<|sr<|wF 32 u220 rfl ty3 rfl<|wl ty3 rfl (hs.c0 hcn)<|wm<|wV (run_lenSl u35 rfl)<|wV (run_bF (run_eql rfl rfl) (by omega))<|wZ<|CW.cond rfl (fun h=>?_) (fun h=>?_)
   ·cases h
   refine ck<|sr<|wm<|wF 32 u220 rfl ty3 rfl<|wl ty3 rfl (hs.c0 hcn)<|wV (run_ixSlN u35 ty44 rfl rfl (by omega))<|wV (run_loadN ty44 rfl hxl (hxat hs.clear))<|WL.alloc ty44 rfl hs (fun b9 w hs=>?_)
   refine WL.storeAll ty44 rfl rfl ((hxl)) ((Cells1.u8s _)) hs (by rfl) (fun w hs=>?_)
   refine wZ<|sr<|wF 0 u220 rfl ty44 rfl<|wV (run_loadN ty44 rfl hdl hs.a1.left)<|wF 32 u220 rfl ty3 rfl<|wl ty3 rfl (hs.c1 hcn)<|wV (run_add (c:=((n+1:Nat):Int)) rfl rfl (by omega) (by omega))<|wV (run_build rfl (bld_pl hd32 _ _))<|wE rfl (run_call en118 rfl rfl) (pushplace_spec (c:=plC8 (d,n+1)) hS2 (plC8_len hd32) (plC8_c1 _) (by rw[List.length_map];omega) (Lives.of (L1:=T2) (Step.bT hs))) ?_
   rintro e w ⟨T3,rfl,hS3,hq⟩
   refine⟨_,rfl,?_⟩
   replace hs:=Step.bU (Step.call (L1:=T2) (Step.bT hs) hq)
   refine wZ ?_
   have ob:=hSet.look x
   obtain⟨hl1,hl2⟩:=ob
   by_cases hxg:x∈g
   ·rw[if_pos hxg] at hF2
    rw[decide_eq_true hxg] at hl2
    refine sr<|wm<|wV (run_loadN ty44 rfl hxl hs.a0)<|wV (run_lookupE u141 (zNone _) hSet.keys hx32 hl1 hl2 rfl rfl (hs.has (b12,mapObj Mg cg) (by simp)))<|wm<|wx rfl rfl<|wx rfl rfl<|WL.alloc ty142 rfl hs (fun b10 w hs=>?_)
    refine WL.storeAll ty142 rfl rfl ((by rfl)) ((Cells1.of_all rfl)) hs (by rfl) (fun w hs=>?_)
    refine wA<|wZ<|sr<|wm<|wV (run_not rfl)<|wZ<|CW.cond rfl (fun h=>?_) (fun h=>?_)
    ·cases h
    replace hs:=Step.bW hs
    refine ck<|(show _∧_ from⟨rfl,_,?_,(d,n+1)::S',g,o,T3,Mg,cg,vo,Lo,hF2,?_,?_,hnd,hgU,hSet,hS3,ho,hs,rfl,rfl,rfl,rfl,trivial⟩)
    ·exact hK
    ·intro y hy
     rcases List.mem_cons.1 hy with rfl | hy
     ·exact hdU
     ·exact hSU' y hy
    ·exact hlen
   ·rw[if_neg hxg] at hF2
    rw[decide_eq_false hxg] at hl2
    refine sr<|wm<|wV (run_loadN ty44 rfl hxl hs.a0)<|wV (run_lookupE u141 (zNone _) hSet.keys hx32 hl1 hl2 rfl rfl (hs.has (b12,mapObj Mg cg) (by simp)))<|wm<|wx rfl rfl<|wx rfl rfl<|WL.alloc ty142 rfl hs (fun b10 w hs=>?_)
    refine WL.storeAll ty142 rfl rfl ((by rfl)) ((Cells1.of_all rfl)) hs (by rfl) (fun w hs=>?_)
    refine wA<|wZ<|sr<|wm<|wV (run_not rfl)<|wZ<|CW.cond rfl (fun h=>?_) (fun h=>?_)
    ·replace hs:=Step.bQ hs
     refine sr<|wm<|wV (run_loadN ty44 rfl hxl hs.a2)<|wV (run_build rfl (bld_none _))<|WL.mapPut u141 rfl rfl rfl hSet.keys hx32 hs (fun w hs=>?_)
     refine wZ ?_
     replace hs:=Step.bR hs
     refine cr<|wV (run_loadN ty44 rfl hxl (At.of_blk (hs.has (b9,blk 44 (u8s x)) (by simp))))<|wV (run_build rfl (bld_p0 hx32 _))<|wE rfl (run_call en118 rfl rfl) (pushplace_spec (c:=plC8 (x,0)) hS3 (plC8_len hx32) (plC8_c1 _) (by rw[List.length_cons,List.length_map];omega) (Lives.of (L1:=T3) hs)) ?_
     rintro e w ⟨T4,rfl,hS4,hq⟩
     refine⟨_,rfl,?_⟩
     replace hs:=Step.bS (Step.call (L1:=T3) hs hq)
     refine wZ<|(show _∧_ from⟨rfl,_,?_,(x,0)::(d,n+1)::S',g++[x],o,T4,_,_,vo,Lo,hF2,?_,?_,?_,?_,hSet.put hx32 cg,hS4,ho,hs,rfl,rfl,rfl,rfl,trivial⟩)
     ·exact hK
     ·intro y hy
      rcases List.mem_cons.1 hy with rfl | hy
      ·exact hxU
      ·rcases List.mem_cons.1 hy with rfl | hy
       ·exact hdU
       ·exact hSU' y hy
     ·rw[List.length_append,List.length_singleton,List.length_cons,List.length_cons];omega
     ·rw[List.nodup_append]
      refine⟨hnd,List.nodup_cons.2 ⟨by simp,List.nodup_nil⟩,fun a ha b hb he=>?_⟩
      rw[List.mem_singleton] at hb
      exact hxg (hb▸he▸ha)
     ·intro y hy
      rcases List.mem_append.1 hy with hy | hy
      ·exact hgU y hy
      ·rw[List.mem_singleton] at hy;exact hy▸hxU
    ·cases h
end
def Cov (s:AS) (t t':WS):Prop:=∃n,t'.m=t.m++n∧∀p∈n,(s.get p.1).2=0∧(p.2=true→decE (s.get p.1).1=0∧∀x∈partsD s p.1,x∈t'.m.map (·.1))
section
variable{s:AS}{rm:Rm}{t u v:WS}
theorem Cov.refl (t:WS):Cov s t t:=⟨[],by simp,fun p hp=>by cases hp⟩
theorem Cov.trans (h:Cov s t u) (k:Cov s u v):Cov s t v:=by
 obtain⟨n,h1,h2⟩:=h
 obtain⟨l,k1,k2⟩:=k
 refine⟨n++l,by rw[k1,h1,List.append_assoc],fun p hp=>?_⟩
 rcases List.mem_append.1 hp with hp | hp
 ·have ob:=h2 p hp
  obtain⟨a,b⟩:=ob
  refine⟨a,fun hd=>⟨(b hd).1,fun x hx=>?_⟩⟩
  have:=(b hd).2 x hx
  rw[k1,List.map_append]
  exact List.mem_append_left _ this
 ·exact k2 p hp
theorem Cov.mem (h:Cov s t u){d:List UInt8} (hd:d∈t.m.map (·.1)):d∈u.m.map (·.1):=by
 obtain⟨n,h1,_⟩:=h
 rw[h1,List.map_append]
 exact List.mem_append_left _ hd
theorem seqS_cov{f:Std→WS→Int×WS}:∀{l:List Std}{t:WS},(∀x∈l,∀t,(f x t).1=0→Cov s t (f x t).2∧x.d∈(f x t).2.m.map (·.1))→(seqS f l t).1=0→Cov s t (seqS f l t).2∧∀x∈l,x.d∈(seqS f l t).2.m.map (·.1)
 | [],t,_,_=>⟨Cov.refl t,fun x hx=>by cases hx⟩
 | x::l,t,hf,he=>by
  rw[seqS] at he⊢
  by_cases c:(f x t).1≠0
  ·rw[if_pos c] at he;exact absurd he c
  ·rw[if_neg c] at he⊢
   have ob:=hf x (by simp) t (by simpa using c)
   obtain⟨h1,h2⟩:=ob
   have ob:=seqS_cov (fun y hy=>hf y (by simp[hy])) he
   obtain⟨h3,h4⟩:=ob
   refine⟨h1.trans h3,fun y hy=>?_⟩
   rcases List.mem_cons.1 hy with rfl | hy
   ·exact h3.mem h2
   ·exact h4 y hy
theorem standP_cov:∀(n:Nat){x:Std}{t:WS},(standP s rm n x t).1=0→Cov s t (standP s rm n x t).2∧x.d∈(standP s rm n x t).2.m.map (·.1)
 | 0,x,t,he=>by cases he
 | n+1,x,t,he=>by
  rw[standP] at he⊢
  by_cases c:(visit s rm x t).1≠0
  ·rw[if_pos c] at he;exact absurd he c
  ·rw[if_neg c] at he⊢
   have c0:(visit s rm x t).1=0:=by simpa using c
   have hm:=visit_m c0
   obtain⟨h1,h2⟩:=seqS_cov (s:=s) (f:=fun y u=>standP s rm n y (push y u)) (fun y hy u hu=>by
    have h3:=standP_cov n (x:=y) (t:=push y u) hu
    refine⟨?_,h3.2⟩
    have ob:=h3.1
    obtain⟨l,h4,h5⟩:=ob
    exact⟨l,by rw[h4,push_m],h5⟩) he
   have hin:x.d∈(visit s rm x t).2.2.m.map (·.1):=by rw[hm,List.map_append];simp
   refine⟨?_,h1.mem hin⟩
   obtain⟨l,h4,h5⟩:=h1
   have ob:=visit_ok c0
   obtain⟨_,_,g0,hk⟩:=ob
   refine⟨(x.d,x.dir)::l,by rw[h4,hm,List.append_assoc];rfl,fun p hp=>?_⟩
   rcases List.mem_cons.1 hp with rfl | hp
   ·refine⟨g0,fun hd=>?_⟩
    rcases hk with⟨_,e0,ek⟩ | ⟨e0,_⟩
    ·refine⟨e0,fun y hy=>?_⟩
     have ob:=List.mem_map.1 hy
     obtain⟨e,he',rfl⟩:=ob
     exact h2 (kidOf x e) (by rw[ek];exact List.mem_map.2 ⟨e,he',rfl⟩)
    ·rw[e0] at hd;cases hd
   ·exact h5 p hp
theorem ordM_head{d:List UInt8} (b:Bool) (n:List (List UInt8×Bool)):(ordM ((d,b)::n))[0]?=some d:=by
 have h:∀(n:List (List UInt8×Bool)) (o:List (List UInt8)),o[0]?=some d→(n.foldl (fun o p=>if p.1∈o then o else o++[p.1]) o)[0]?=some d:=by
  intro n
  induction n with
  | nil=>exact fun o h=>h
  | cons p n ih=>
   intro o h
   rw[List.foldl_cons]
   refine ih _ ?_
   split
   ·exact h
   ·rw[List.getElem?_append_left (List.getElem?_eq_some_iff.1 h).1];exact h
 show(((d,b)::n).foldl _ [])[0]?=_
 rw[List.foldl_cons]
 exact h n _ (by simp)
structure Met (s:AS) (d:List UInt8) (m:List (List UInt8×Bool)):Prop where
 head:(ordM m)[0]?=some d
 got:∀p∈m,(s.get p.1).2=0
 len:∀e∈ordM m,e.length=32
 sub:∀e∈ordM m,∀x∈partsM s m e,x∈ordM m
theorem runs_met{d:List UInt8}{t:WS} (hd:d.length=32) (h:runs s rm [rootS d] ws0=(0,t)):Met s d t.m:=by
 rw[runs_root] at h
 have h0:(standP s rm 34 (rootS d) ws0).1=0:=by rw[h]
 have h32:=root_M32 hd h0
 have ob:=root_split h0
 obtain⟨t1,h1,_,h2⟩:=ob
 have hc:=(standP_cov 34 h0).1
 rw[h] at hc h32
 obtain⟨n,hn,hp⟩:=hc
 have hn':t.m=n:=by rw[hn];rfl
 rw[←hn'] at hp
 have hle:∀e∈ordM t.m,e.length=32:=fun e he=>by
  rw[ordM_mem] at he
  have ob:=List.mem_map.1 he
  obtain⟨p,hp,rfl⟩:=ob
  exact h32 p hp
 refine⟨?_,fun p hpm=>(hp p hpm).1,hle,fun e he x hx=>?_⟩
 ·have hs:(seqS (fun y u=>stand s rm 33 y u) (kids (rootS d) (s.get d).1) t1).1=0:=by rw[←h2];exact h0
  obtain⟨⟨l,hl,_⟩,_⟩:=seqS_cov (s:=s) (f:=fun y u=>stand s rm 33 y u) (fun y hy u hu=>by
   have h3:=standP_cov 33 (x:=y) (t:=push y u) hu
   have ob:=h3.1
   obtain⟨l,h4,h5⟩:=ob
   exact⟨⟨l,by rw[stand,h4,push_m],h5⟩,h3.2⟩) hs
  rw[←h2,h,h1] at hl
  rw[hl]
  exact ordM_head true l
 ·unfold partsM at hx
  split at hx
  ·rename_i hm
   rw[ordM_mem]
   exact((hp _ hm).2 rfl).2 x hx
  ·cases hx
theorem Met.goes{d:List UInt8}{m:List (List UInt8×Bool)} (h:Met s d m):∃gf of k,Goes (partsM s m) [d] [] [] gf of k:=by
 obtain⟨g,o,k,hG⟩:=goes_all (P:=partsM s m) (U:=ordM m) h.sub _ [d] [] [] (Nat.le_refl _) fun x hx=>by
  obtain rfl:=List.mem_singleton.1 hx
  exact List.mem_of_getElem? h.head
 exact⟨g,o,k,hG⟩
end
section
variable{br:Nat}{s:AS}{D R:List (Nat×Obj)}{d:List UInt8}{w0:World}
theorem rraw_abs (hT:RRep br s D R) (ok:s.Ok) (hw:Lives (R++D) w0) (hd:d.length=32):Calls Tryz.prog 72 #[.pointer (some ⟨br,0,none⟩),.agg (u8s d).toArray] w0 fun e w'=>∃v' Lv',e=.returned (.tuple #[v',.bool (s.has d)])∧OwnSl 5 1 v' (s.raw d).length (u8s (s.raw d)) Lv'∧Step [] Lv' w0 w':=by
 have ob:=hT.open ok hw
 obtain⟨a,c,Lv,T,o⟩:=ob
 exact rraw_spec o ok hd
end
theorem get_raw{s:AS}{d:List UInt8} (h:(s.get d).2=0):s.raw d=(s.get d).1:=by
 unfold AS.get at h⊢
 unfold AS.raw
 cases hx:findX d s.X with
 | none=>rfl
 | some b=>
  rw[hx] at h
  simp only at h⊢
  by_cases hf:frontL b.x s.k=d
  ·rw[if_pos hf]
  ·rw[if_neg hf] at h;cases h
section
variable{S:List Nat}{a b q:Nat×Obj}{Lo X:List (Nat×Obj)}{w w':World}
theorem Step.pIn (h:Step S (a::(Lo++X)) w w'):Step S (Lo++(a::X)) w w':=h.perm List.perm_middle.symm
theorem Step.pOut (h:Step S (Lo++(a::X)) w w'):Step S (Lo++X) w w':=Step.tail (p:=a) (h.perm List.perm_middle)
end
section
variable{br:Nat}{s:AS}{D R:List (Nat×Obj)}{d:List UInt8}{w0:World}{m:List (List UInt8×Bool)}{v:Value}
set_option maxHeartbeats 8000000 in
theorem partsR_spec (hR:RRep br s D R) (ok:s.Ok) (hw:Lives (R++D) w0) (hv:Sl w0 33 v m.length (rowsSt m)) (h32:∀p∈m,p.1.length=32) (hm:m.length≤65536) (hgot:(d,true)∈m→(s.get d).2=0) (hd:d.length=32) :
  Calls Tryz.prog 158 #[.pointer (some ⟨br,0,none⟩),v,.agg (u8s d).toArray] w0 fun e w'=>∃u Lu,e=.returned u∧OwnSl 44 32 u (partsM s m d).length (digsL (partsM s m d)) Lu∧Step [] Lu w0 w':=by
 have hs:Step [] [] w0 w0:=Step.refl w0
 have hdl:(u8s d).length=32:=by rw[u8s,List.length_map,hd]
 have hgl:=get_len ok d
 have ob:=hv.form
 obtain⟨a,c,rfl⟩:=ob
 refine calls (n:=66) Tryz.func158 rfl rfl rfl ?_
 refine sr<|WL.box (cs:=u8s d) rfl rfl rfl hs (fun b5 w hs=>?_)
 refine wA<|wZ<|sr<|wA<|wZ<|CW.seqM (fun f w=>Step [] [(b5,blk 44 (u8s d))] w0 w∧Holds f [(0,.pointer (some ⟨br,0,none⟩)),(5,.pointer (some ⟨b5,0,none⟩)),(7,.bool (decide ((d,true)∈m)))]) ?_ ?_
 ·refine sr<|wA<|wZ<|cB<|CW.loop (fun z f w'=>∃i r,i≤m.length∧z=m.length - i∧decide ((d,true)∈m.take i)=r∧Step [] [(b5,blk 44 (u8s d))] w0 w'∧Holds f [(0,.pointer (some ⟨br,0,none⟩)),(1,.slice a m.length c),(5,.pointer (some ⟨b5,0,none⟩)),(7,.bool r),(8,.int .i64 (i:Nat))]) (m:=m.length) ?_ ?_
  ·exact⟨0,false,Nat.zero_le _,rfl,by simp,hs,rfl,rfl,rfl,rfl,rfl,trivial⟩
  clear hs
  rintro z f w ⟨i,r,hi,rfl,hr,hs,hf⟩
  have ob:=hf.chain
  obtain⟨g,rfl⟩:=ob
  by_cases hlt:i<m.length
  ·have ob:∃p,m[i]?=some p:=⟨_,List.getElem?_eq_getElem hlt⟩
   obtain⟨p,hp⟩:=ob
   obtain⟨pd,pb⟩:=p
   have hp32:=h32 _ (List.mem_of_getElem? hp)
   have hpl:(u8s pd).length=32:=by rw[u8s,List.length_map,hp32]
   have htk:m.take (i+1)=m.take i++[(pd,pb)]:=by rw[List.take_add_one,hp];rfl
   obtain⟨ba,oa,ca,hae,hat⟩:∃ba oa ca,Value.slice a m.length c=.slice (some ⟨ba,oa,none⟩) m.length ca∧At w0 ba oa (rowsSt m):=by
    obtain⟨_,⟨_,_,h1,h2⟩ | ⟨b,off,cc,h1,h2⟩⟩:=hv
    ·omega
    ·exact⟨b,off,cc,h1,h2⟩
   cases hae
   have hrow:∀{w},Step [] [] w0 w→At w ba (oa+i*33) (stC8 (pd,pb)):=fun h=>rowsSt_at h32 (hat.step h (by simp)) hp
   have hbl:(stC8 (pd,pb))[32]?=some (.bool pb):=by show(u8s pd++[Value.bool pb])[32]?=_;rw[List.getElem?_append_right (by omega),hpl];rfl
   have hrd:∀{w},Step [] [] w0 w→At w ba (oa+i*33) (u8s pd):=fun h=>(hrow h).left
   refine cq<|sr<|wm<|wm<|wV (run_lenSl u133 rfl)<|wV (run_bT (run_lss rfl rfl) (by omega))<|wZ<|CW.cond rfl (fun h=>?_) (fun h=>?_)
   ·cases r with
    | true=>
     refine ck<|cq<|cB<|CW.quiet mixedP (by kernel_rfl) hs ?_
     refine qm<|qm<|qz<|qz<|qz<|qz<|qz<|qz<|qz<|qz<|qz<|qz<|qz<|qz ?_
     refine qz<|qz<|qV (fun w hs=>run_pickT rfl)<|qV (fun w hs=>run_assign)<|QL.nil (fun w hs=>?_)
     refine cr<|wm<|wV (run_add (c:=((i+1:Nat):Int)) rfl rfl (by omega) (by omega))<|wA<|wZ<|(show _∧_ from⟨rfl,_,?_,i+1,true,hlt,rfl,?_,hs,rfl,rfl,rfl,rfl,rfl,trivial⟩)
     ·omega
     ·rw[htk];simp only[decide_eq_true_eq] at hr⊢;exact List.mem_append_left _ hr
    | false=>
     have hno:(d,true)∉m.take i:=by simpa using hr
     cases pb with
     | false=>
      refine ck<|cq<|cB<|CW.quiet mixedP (by kernel_rfl) hs ?_
      refine qm<|qm<|qy<|qm<|qy<|qm ?_
      refine qy ?_;(first | refine QL.val rfl (fun w hs=>run_ixSlN u133 ty137 rfl rfl (by omega)) ?_ | refine QL.val rfl (fun w hs=>run_ixSl u133 ty137 rfl rfl (by omega)) ?_)
      refine qy<|qF 32 u137 rfl ty4 rfl<|qy<|qV (fun w hs=>run_load1 ty4 rfl ((hrow hs.clear).cell (j:=32) hbl))<|qy<|qm<|qz<|qz<|qz<|qz<|qz<|qz<|qz ?_
      refine qy ?_;(first | refine QL.val rfl (fun w hs=>run_pickT rfl) ?_ | refine QL.val rfl (fun w hs=>run_pickF rfl) ?_)
      refine qV (fun w hs=>run_pickF rfl)<|qV (fun w hs=>run_assign)<|QL.nil (fun w hs=>?_)
      refine cr<|wm<|wV (run_add (c:=((i+1:Nat):Int)) rfl rfl (by omega) (by omega))<|wA<|wZ<|(show _∧_ from⟨rfl,_,?_,i+1,false,hlt,rfl,?_,hs,rfl,rfl,rfl,rfl,rfl,trivial⟩)
      ·omega
      ·rw[htk,decide_eq_false];simp[hno]
     | true=>
      by_cases hed:pd=d
      ·refine ck<|cq<|cB<|CW.quiet mixedP (by kernel_rfl) hs ?_
       refine qm<|qm<|qy<|qm<|qy<|qm ?_
       refine qy ?_;(first | refine QL.val rfl (fun w hs=>run_ixSlN u133 ty137 rfl rfl (by omega)) ?_ | refine QL.val rfl (fun w hs=>run_ixSl u133 ty137 rfl rfl (by omega)) ?_)
       refine qy<|qF 32 u137 rfl ty4 rfl<|qy<|qV (fun w hs=>run_load1 ty4 rfl ((hrow hs.clear).cell (j:=32) hbl))<|qy<|qm<|qy<|qm<|qy<|qm ?_
       refine qy ?_;(first | refine QL.val rfl (fun w hs=>run_ixSlN u133 ty137 rfl rfl (by omega)) ?_ | refine QL.val rfl (fun w hs=>run_ixSl u133 ty137 rfl rfl (by omega)) ?_)
       refine qy<|qF 0 u137 rfl ty44 rfl<|qy<|qV (fun w hs=>run_loadN ty44 rfl hpl (hrd hs.clear))<|qy<|qV (fun w hs=>run_loadN ty44 rfl hdl hs.a0)<|qy<|qV (fun w hs=>run_bT (run_eqDig hp32 hd rfl rfl) hed) ?_
       refine qy ?_;(first | refine QL.val rfl (fun w hs=>run_pickT rfl) ?_ | refine QL.val rfl (fun w hs=>run_pickF rfl) ?_)
       refine qV (fun w hs=>run_pickF rfl)<|qV (fun w hs=>run_assign)<|QL.nil (fun w hs=>?_)
       refine cr<|wm<|wV (run_add (c:=((i+1:Nat):Int)) rfl rfl (by omega) (by omega))<|wA<|wZ<|(show _∧_ from⟨rfl,_,?_,i+1,true,hlt,rfl,?_,hs,rfl,rfl,rfl,rfl,rfl,trivial⟩)
       ·omega
       ·rw[htk,decide_eq_true];simp[hed]
      ·refine ck<|cq<|cB<|CW.quiet mixedP (by kernel_rfl) hs ?_
       refine qm<|qm<|qy<|qm<|qy<|qm ?_
       refine qy ?_;(first | refine QL.val rfl (fun w hs=>run_ixSlN u133 ty137 rfl rfl (by omega)) ?_ | refine QL.val rfl (fun w hs=>run_ixSl u133 ty137 rfl rfl (by omega)) ?_)
       refine qy<|qF 32 u137 rfl ty4 rfl<|qy<|qV (fun w hs=>run_load1 ty4 rfl ((hrow hs.clear).cell (j:=32) hbl))<|qy<|qm<|qy<|qm<|qy<|qm ?_
       refine qy ?_;(first | refine QL.val rfl (fun w hs=>run_ixSlN u133 ty137 rfl rfl (by omega)) ?_ | refine QL.val rfl (fun w hs=>run_ixSl u133 ty137 rfl rfl (by omega)) ?_)
       refine qy<|qF 0 u137 rfl ty44 rfl<|qy<|qV (fun w hs=>run_loadN ty44 rfl hpl (hrd hs.clear))<|qy<|qV (fun w hs=>run_loadN ty44 rfl hdl hs.a0)<|qy<|qV (fun w hs=>run_bF (run_eqDig hp32 hd rfl rfl) hed) ?_
       refine qy ?_;(first | refine QL.val rfl (fun w hs=>run_pickT rfl) ?_ | refine QL.val rfl (fun w hs=>run_pickF rfl) ?_)
       refine qV (fun w hs=>run_pickF rfl)<|qV (fun w hs=>run_assign)<|QL.nil (fun w hs=>?_)
       refine cr<|wm<|wV (run_add (c:=((i+1:Nat):Int)) rfl rfl (by omega) (by omega))<|wA<|wZ<|(show _∧_ from⟨rfl,_,?_,i+1,false,hlt,rfl,?_,hs,rfl,rfl,rfl,rfl,rfl,trivial⟩)
       ·omega
       ·rw[htk,decide_eq_false];simp only[List.mem_append,hno,List.mem_singleton,Prod.mk.injEq,and_true,false_or];exact fun h=>hed h.symm
   ·cases h
  ·obtain rfl:i=m.length:=by omega
   rw[List.take_length] at hr
   rw[←hr]
   refine cq<|sr<|wm<|wm<|wV (run_lenSl u133 rfl)<|wV (run_bF (run_lss rfl rfl) (by omega))<|wZ<|CW.cond rfl (fun h=>?_) (fun h=>?_)
   ·cases h
   refine CW.exit ?_
   exact⟨rfl,hs,rfl,rfl,rfl,trivial⟩
 clear hs
 rintro f w ⟨hs,hf⟩
 have ob:=hf.chain
 obtain⟨g,rfl⟩:=ob
 by_cases hdm:(d,true)∈m
 ·rw[decide_eq_true hdm]
  have hraw:=get_raw (hgot hdm)
  have hpm:partsM s m d=(decL (s.get d).1).map (·.dig):=by rw[partsM,if_pos hdm];rfl
  refine cq<|sr<|wm<|wV (run_not rfl)<|wZ<|CW.cond rfl (fun h=>?_) (fun h=>?_)
  ·cases h
  refine ck<|sr<|wm<|wV (run_loadN ty44 rfl hdl hs.a0)<|wE rfl (run_call en72 rfl rfl) (rraw_abs hR ok (hw.after hs.clear) hd) ?_
  rintro e w ⟨vb,Lb,rfl,hvb,hq⟩
  refine⟨_,rfl,?_⟩
  replace hs:=Step.call0 hs hq
  refine wm<|wx rfl rfl<|wx rfl rfl<|wA<|wA<|wZ ?_
  rw[hraw] at hvb
  refine sr<|wm<|wE rfl (run_call en103 rfl rfl) (decodeR_at _ (hvb.sl hs) (hvb.room (by decide)) (by omega)) ?_
  rintro e w ⟨u,Le,rfl,hu,hoks,hle,hq⟩
  refine⟨_,rfl,?_⟩
  replace hs:=Step.call0 hs hq
  refine wm<|wx rfl rfl<|wx rfl rfl<|wA<|wA<|wZ ?_
  have ob:∃l,decL (s.get d).1=l:=⟨_,rfl⟩
  obtain⟨l,hll⟩:=ob
  rw[hll] at hu hoks hle hpm
  have ob:=hu.form
  obtain⟨ua,uc,rfl⟩:=ob
  refine sr<|wA<|wZ<|cq<|sr<|wA<|wZ<|cB<|CW.loop (fun z f w'=>∃i vp LP,i≤l.length∧z=l.length - i∧OwnSl 44 32 vp i (digsL ((l.take i).map (·.dig))) LP∧Step [] (LP++(Le++(Lb++[(b5,blk 44 (u8s d))]))) w0 w'∧Holds f [(0,.pointer (some ⟨br,0,none⟩)),(5,.pointer (some ⟨b5,0,none⟩)),(11,.slice ua l.length uc),(13,vp),(14,.int .i64 (i:Nat))]) (m:=l.length) ?_ ?_
  ·exact⟨0,_,[],Nat.zero_le _,rfl,OwnSl.nil _ _,hs,rfl,rfl,rfl,rfl,rfl,trivial⟩
  clear hs
  rintro z f w ⟨i,vp,LP,hil,rfl,hvp,hs,hf⟩
  have ob:=hf.chain
  obtain⟨g,rfl⟩:=ob
  by_cases hlt:i<l.length
  ·have ob:=hu.some1 (by omega)
   obtain⟨bu,cu,more,hu1,hu2,hu3⟩:=ob
   cases hu1
   subst hu2
   have ob:∃e,l[i]=e:=⟨_,rfl⟩
   obtain⟨e,he⟩:=ob
   have heo:=hoks e (he▸List.getElem_mem hlt)
   have hel:(u8s e.dig).length=32:=by rw[u8s,List.length_map,heo.1]
   have hent:At w bu (0+i*34) e.cells:=by
    have h2:=(At.of_blk (hs.has (bu,blk 115 (rows l++more)) (by simp))).left.ent hoks hlt
    rw[he] at h2;exact h2
   have hen2:At w bu (0+i*34+2) (u8s e.dig):=hent.drop 2
   refine cq<|sr<|wm<|wm<|wV (run_lenSl u116 rfl)<|wV (run_bT (run_lss rfl rfl) (by omega))<|wZ<|CW.cond rfl (fun h=>?_) (fun h=>?_)
   ·refine ck<|cq<|cB<|cr<|wm<|wm<|wm<|wV (run_ixSlN u116 ty115 rfl rfl (by omega))<|wF 2 u115 rfl ty44 rfl<|wV (run_loadN ty44 rfl hel hen2)<|WL.buildSlice (cs:=u8s e.dig) u35 ty44 rfl (by decide) rfl (filled1 hel rfl) rfl hs (fun b63 w hs=>?_)
    have hsl63:Sl w 32 (.slice (some ⟨b63,0,none⟩) 1 1) 1 (u8s e.dig):=.own1 hs (by rw[hel])
    replace hs:=Step.pIn hs
    refine WL.append u35 u35 ty44 rfl (by decide) rfl rfl (hvp) (hs) (hsl63) (Cells1.u8s _) (by omega) rfl (fun v64 Lv64 w hv64 hs=>?_)
    replace hs:=Step.pOut hs
    refine wA<|wZ<|cr<|wm<|wV (run_add (c:=((i+1:Nat):Int)) rfl rfl (by omega) (by omega))<|wA<|wZ ?_
    have hv2:OwnSl 44 32 v64 (i+1) (digsL ((l.take (i+1)).map (·.dig))) Lv64:=by
     rw[List.take_succ_eq_append_getElem hlt,he,List.map_append,List.map_singleton,digsL_snoc];exact hv64
    refine(show _∧_ from⟨rfl,_,?_,i+1,v64,Lv64,hlt,rfl,hv2,hs,rfl,rfl,rfl,rfl,rfl,trivial⟩)
    omega
   ·cases h
  ·obtain rfl:i=l.length:=by omega
   rw[List.take_length] at hvp
   refine cq<|sr<|wm<|wm<|wV (run_lenSl u116 rfl)<|wV (run_bF (run_lss rfl rfl) (by omega))<|wZ<|CW.cond rfl (fun h=>?_) (fun h=>?_)
   ·cases h
   refine CW.exit<|sr<|wm<|wA<|wZ<|CW.ret ?_
   refine fin_ret1 rfl ?_
   exact⟨_,LP,rfl,by rw[hpm,List.length_map];exact hvp,Step.dropR (L1:=LP) hs⟩
 ·rw[decide_eq_false hdm]
  refine cq<|sr<|wm<|wV (run_not rfl)<|wZ<|CW.cond rfl (fun h=>?_) (fun h=>?_)
  ·refine sr<|wA<|wZ<|CW.ret ?_
   refine fin_ret1 rfl ?_
   exact⟨_,[],rfl,by rw[partsM,if_neg hdm];exact OwnSl.nil _ _,hs.clear⟩
  ·cases h
end
theorem Goes.split{P:List UInt8→List (List UInt8)}{x:List UInt8}{ds g o g' o':List (List UInt8)}{k:Nat} (h:Goes P (x::ds) g o g' o' k):∃g2 o2 k1 k2,Goes P [x] g o g2 o2 k1∧Goes P ds g2 o2 g' o' k2∧k1≤k∧k2≤k:=by
 cases h with
 | skip hx h=>exact⟨g,o,1,_,.skip hx (.nil _ _),h,by omega,by omega⟩
 | go hx h1 h2=>exact⟨_,_,_,_,.go hx h1 (.nil _ _),h2,by omega,by omega⟩
theorem Goes.len{P:List UInt8→List (List UInt8)}{ds g o g' o':List (List UInt8)}{k:Nat} (h:Goes P ds g o g' o' k) (j:Nat) (hl:o.length+j≤g.length):o'.length+j≤g'.length:=by
 have ob:=h.ext
 obtain⟨n,t,rfl,rfl,hp⟩:=ob
 have:=hp.length_eq
 rw[List.length_append,List.length_append]
 omega
section
variable{S:List Nat}{a b q:Nat×Obj}{Lg Lo Lu A X B:List (Nat×Obj)}{w w':World}
theorem Step.fin0{L D L1:List (Nat×Obj)}{w0 w:World} (hw:Lives (L++D) w0) (h:Step ((L++D).map (·.1)) (L1++D) w0 w):Step (L.map (·.1)) L1 w0 w:=by
 have:=Step.fin (M:=[]) (L1:=L1) (D1:=[]) hw h
 simpa using this
theorem Step.tA (h:Step S (a::((b::(Lg++Lo))++B)) w w'):Step S (a::b::(Lg++(Lo++B))) w w':=by
 have e:(b::(Lg++Lo))++B=b::(Lg++(Lo++B)):=by simp[List.append_assoc]
 rw[e] at h;exact h
theorem Step.tC (h:Step S ((a::Lu)++((b::(Lg++Lo))++B)) w w'):Step S (a::b::(Lo++(Lg++(Lu++B)))) w w':=h.perm (by classical exact List.perm_iff_count.2 fun x=>by simp only[List.count_append,List.count_cons];omega)
theorem Step.tE (h:Step S (Lu++(b::a::(Lg++(Lo++B)))) w w'):Step S ((a::Lu)++((b::(Lg++Lo))++B)) w w':=h.perm (by classical exact List.perm_iff_count.2 fun x=>by simp only[List.count_append,List.count_cons];omega)
theorem Step.tF (h:Step S (b::a::(Lo++(Lg++(Lu++B)))) w w'):Step S ((b::(Lg++Lo))++B) w w':=Step.dropL (L1:=a::Lu) (h.perm (L':=(a::Lu)++((b::(Lg++Lo))++B)) (by classical exact List.perm_iff_count.2 fun x=>by simp only[List.count_append,List.count_cons];omega))
theorem Step.lvB (h:Step S (b::a::(Lg++(Lo++B))) w w'):Lives B w':=Lives.of (L2:=b::a::(Lg++Lo)) (h.perm (by classical exact List.perm_iff_count.2 fun x=>by simp only[List.count_append,List.count_cons];omega))
end
def GRep (bG br:Nat) (vL:Value) (g o:List (List UInt8)) (W:List (Nat×Obj)):Prop:=
 ∃vg Lg vo Lo,W=(bG,blk 225 [.pointer (some ⟨br,0,none⟩),vL,vg,vo])::(Lg++Lo)∧OwnSl 44 32 vg g.length (digsL g) Lg∧OwnSl 44 32 vo o.length (digsL o) Lo
section
variable{br bG:Nat}{s:AS}{D R LvL:List (Nat×Obj)}{r:List UInt8}{m:List (List UInt8×Bool)}{vL:Value}
set_option maxHeartbeats 16000000 in
theorem to_spec (hR:RRep br s D R) (ok:s.Ok) (hM:Met s r m) (hL:OwnSl 137 33 vL m.length (rowsSt m) LvL) (hLD:∀p∈LvL,p∈D) (hm:m.length≤65536) (h32m:∀p∈m,p.1.length=32) (hpl:∀d,(partsM s m d).length<1000000000) :
  ∀(k:Nat){d:List UInt8}{g o g' o':List (List UInt8)}{W:List (Nat×Obj)}{w0:World},Goes (partsM s m) [d] g o g' o' k→d∈ordM m→g.Nodup→(∀x∈g,x∈ordM m)→o.length≤g.length→GRep bG br vL g o W→Lives (W++(R++D)) w0→
  Calls Tryz.prog 120 #[.pointer (some ⟨bG,0,none⟩),.agg (u8s d).toArray] w0 fun e w'=>∃W',e=.returned (.tuple #[])∧GRep bG br vL g' o' W'∧Step (W.map (·.1)) W' w0 w':=by
 intro k
 induction k using Nat.strongRecOn with
 | ind k ih=>
 intro d g o g' o' W w0 hG hdU hnd hgU hol hW hw
 have hw0:=hw
 have hd32:=hM.len d hdU
 have hdl:(u8s d).length=32:=by rw[u8s,List.length_map,hd32]
 have hgl:=nodup_len hnd hgU
 have hom:=ordM_len m
 have hW0:=hW
 obtain⟨vg,Lg,vo,Lo,hWe,hvg,hvo⟩:=hW
 subst hWe
 have ob:∃B,R++D=B:=⟨_,rfl⟩
 obtain⟨B,hB⟩:=ob
 rw[hB] at hw
 have hs:Step (List.map (·.1) (((bG,blk 225 [.pointer (some ⟨br,0,none⟩),vL,vg,vo])::(Lg++Lo))++B)) (((bG,blk 225 [.pointer (some ⟨br,0,none⟩),vL,vg,vo])::(Lg++Lo))++B) w0 w0:=hw
 have ob:∃S,List.map (·.1) (((bG,blk 225 [.pointer (some ⟨br,0,none⟩),vL,vg,vo])::(Lg++Lo))++B)=S:=⟨_,rfl⟩
 obtain⟨S,hS⟩:=ob
 rw[hS] at hs
 have ob:=hvg.form
 obtain⟨ga,gc,rfl⟩:=ob
 have ob:=hL.form
 obtain⟨la,lc,rfl⟩:=ob
 have hfin:∀{W':List (Nat×Obj)}{w:World},Step S (W'++B) w0 w→Step (List.map (·.1) ((bG,blk 225 [.pointer (some ⟨br,0,none⟩),.slice la m.length lc,.slice ga g.length gc,vo])::(Lg++Lo))) W' w0 w:=fun h=>Step.fin0 hw (by rw[hS];exact h)
 have hhas:∀{w:World},Step S ((bG,blk 225 [.pointer (some ⟨br,0,none⟩),.slice la m.length lc,.slice ga g.length gc,vo])::(Lg++(Lo++B))) w0 w→Calls Tryz.prog 66 #[.slice ga g.length gc,.agg (u8s d).toArray] w (Ret0 (.bool (decide (d∈g))) w):=fun h=>hasR_spec (Dgs.own hvg (fun p hp=>h.has p (by simp[hp])) (fun x hx=>hM.len x (hgU x hx)) (by omega)) hd32
 have hDB:∀p∈D,p∈B:=fun p hp=>hB▸List.mem_append_right _ hp
 refine calls (n:=54) Tryz.func120 rfl rfl rfl ?_
 refine sr<|WL.box (cs:=u8s d) rfl rfl rfl hs (fun b3 w hs=>?_)
 refine wZ ?_
 replace hs:=Step.tA hs
 by_cases hdg:d∈g
 ·have hr:g'=g∧o'=o:=by
   cases hG with
   | skip _ h=>cases h;exact⟨rfl,rfl⟩
   | go h _ _=>exact absurd hdg h
  rw[decide_eq_true hdg] at hhas
  refine cq<|cq<|CW.quiet mixedP (by kernel_rfl) hs ?_
  refine qm<|qn rfl<|qF 2 u225 rfl ty35 rfl<|qV (fun w hs=>run_load1 ty35 rfl (hs.c1 (v:=.slice ga g.length gc) rfl))<|qV (fun w hs=>run_loadN ty44 rfl hdl hs.a0)<|QL.enter rfl (fun w=>run_call en66 rfl rfl) (fun w hs=>hhas hs.tail) ?_
  refine QL.nil (fun w hs=>?_)
  refine CW.cond rfl (fun h=>?_) (fun h=>?_)
  ·skip
   refine CW.ret ?_
   refine fin_ret0 rfl ?_
   exact⟨_,rfl,by rw[hr.1,hr.2];exact hW0,hfin (by rw[List.cons_append,List.append_assoc];exact hs.tail)⟩
  ·cases h
 ·obtain⟨g1,o1,k1,hg1,hg',ho',hk1⟩:∃g1 o1 k1,Goes (partsM s m) (partsM s m d) (g++[d]) o g1 o1 k1∧g'=g1∧o'=o1++[d]∧k1<k:=by
   cases hG with
   | skip h _=>exact absurd h hdg
   | go _ h1 h2=>cases h2;exact⟨_,_,_,h1,rfl,rfl,by omega⟩
  rw[decide_eq_false hdg] at hhas
  refine cq<|cq<|CW.quiet mixedP (by kernel_rfl) hs ?_
  refine qm<|qn rfl<|qF 2 u225 rfl ty35 rfl<|qV (fun w hs=>run_load1 ty35 rfl (hs.c1 (v:=.slice ga g.length gc) rfl))<|qV (fun w hs=>run_loadN ty44 rfl hdl hs.a0)<|QL.enter rfl (fun w=>run_call en66 rfl rfl) (fun w hs=>hhas hs.tail) ?_
  refine QL.nil (fun w hs=>?_)
  refine CW.cond rfl (fun h=>?_) (fun h=>?_)
  ·cases h
  refine ck<|CW.seqM (fun f w=>∃vg' Lg',OwnSl 44 32 vg' (g++[d]).length (digsL (g++[d])) Lg'∧Step S ((bG,blk 225 [.pointer (some ⟨br,0,none⟩),.slice la m.length lc,vg',vo])::(b3,blk 44 (u8s d))::(Lg'++(Lo++B))) w0 w∧Holds f [(0,.pointer (some ⟨bG,0,none⟩)),(3,.pointer (some ⟨b3,0,none⟩))]) ?_ ?_
  ·skip
   refine CW.any (A:=fun w=>Step S [(b3,blk 44 (u8s d))] w0 w) (C:=fun w=>Step S [(b3,blk 44 (u8s d)),(bG,blk 225 [.pointer (some ⟨br,0,none⟩),.slice la m.length lc,.slice ga g.length gc,vo])] w0 w) 10 11 mixedP rfl ?_
   replace hs:=hs.drew
   refine aM 0 rfl<|aM 1 rfl<|aV 2 rfl (fun w hs=>run_nilCheck rfl)<|aV 3 rfl (fun w hs=>run_field (o':=2) u225 rfl ty35 rfl rfl rfl)<|aV 4 rfl (fun w hs=>run_load1 ty35 rfl (hs.c1 rfl))<|aV 5 rfl (fun w hs=>run_loadN ty44 rfl hdl hs.a0)<|AL.one 6 (by kernel_rfl) rfl (by exact Step.dropR (L1:=[(b3,_)]) hs) (by exact Step.dropR (L1:=[_,_]) hs) ?_
   refine WL.buildSlice (cs:=u8s d) u35 ty44 rfl (by decide) rfl (filled1 hdl rfl) rfl hs (fun b18 w hs=>?_)
   have hsl18:Sl w 32 (.slice (some ⟨b18,0,none⟩) 1 1) 1 (u8s d):=.own1 hs (by rw[hdl])
   replace hs:=Step.in3 hs
   refine wZ<|⟨rfl,?_⟩
   refine AL.one 7 (by kernel_rfl) rfl (by exact Step.dropR (L1:=[(b3,_)]) (hs.dropL (L1:=Lg)).tail) (by exact Step.dropR (L1:=[_,_]) (hs.dropL (L1:=Lg)).tail) ?_
   refine WL.append u35 u35 ty44 rfl (by decide) rfl rfl (hvg) (hs) (hsl18) (Cells1.u8s _) (by omega) rfl (fun v19 Lv19 w hv19 hs=>?_)
   replace hs:=Step.out3 hs
   refine wZ<|⟨rfl,?_⟩
   refine AL.valA 8 rfl (by kernel_rfl) rfl (fun w hs=>run_nilCheck rfl) ?_
   refine aV 9 rfl (fun w hs=>run_field (o':=2) u225 rfl ty35 rfl rfl rfl)<|AL.one 10 (by kernel_rfl) rfl (by exact Step.dropR (L1:=[(b3,_)]) hs) (by exact Step.dropR (L1:=[_,_]) hs) ?_
   refine ws1 ty35 rfl rfl (hv19.one) (hs.swap) (fun w hs=>?_)
   refine wZ<|⟨rfl,?_⟩
   refine AL.relax (by kernel_rfl) ?_
   refine AL.end (by kernel_rfl) (by exact Step.dropR (L1:=[(b3,_)]) hs.tail) (trivial) ?_
   exact⟨rfl,v19,Lv19,by rw[List.length_append,digsL_snoc];exact hv19,hs,rfl,rfl,trivial⟩
  clear hs
  rintro f w ⟨vg',Lg',hvg',hs,hf⟩
  have ob:=hf.chain
  obtain⟨gg,rfl⟩:=ob
  refine CW.seqM (fun f w=>∃u Lu,OwnSl 44 32 u (partsM s m d).length (digsL (partsM s m d)) Lu∧Step S (((b3,blk 44 (u8s d))::Lu)++(((bG,blk 225 [.pointer (some ⟨br,0,none⟩),.slice la m.length lc,vg',vo])::(Lg'++Lo))++B)) w0 w∧Holds f [(0,.pointer (some ⟨bG,0,none⟩)),(3,.pointer (some ⟨b3,0,none⟩)),(4,u)]) ?_ ?_
  ·have hpr:=fun{w:World} (h:Step S ((bG,blk 225 [.pointer (some ⟨br,0,none⟩),.slice la m.length lc,vg',vo])::(b3,blk 44 (u8s d))::(Lg'++(Lo++B))) w0 w)=>partsR_spec (w0:=w) (d:=d) hR ok (by rw[hB];exact Step.lvB h) (hL.slH (fun p hp=>h.has p (by simp[hDB p (hLD p hp)]))) h32m hm (fun h=>hM.got _ h) hd32
   refine CW.any (A:=fun w=>Step S [(bG,blk 225 [.pointer (some ⟨br,0,none⟩),.slice la m.length lc,vg',vo]),(b3,blk 44 (u8s d))] w0 w) (C:=fun w=>Step S [(bG,blk 225 [.pointer (some ⟨br,0,none⟩),.slice la m.length lc,vg',vo]),(b3,blk 44 (u8s d))] w0 w) 1000000 11 mixedP rfl ?_
   replace hs:=hs.drew
   refine aM 0 rfl<|aV 1 rfl (fun w hs=>run_nilCheck rfl)<|aV 2 rfl (fun w hs=>run_field (o':=0) u225 rfl ty40 rfl rfl rfl)<|aV 3 rfl (fun w hs=>run_load1 ty40 rfl (hs.c0 (v:=.pointer (some ⟨br,0,none⟩)) rfl))<|aM 4 rfl<|aV 5 rfl (fun w hs=>run_nilCheck rfl)<|aV 6 rfl (fun w hs=>run_field (o':=1) u225 rfl ty133 rfl rfl rfl)<|aV 7 rfl (fun w hs=>run_load1 ty133 rfl (hs.c0 (v:=.slice la m.length lc) rfl))<|aV 8 rfl (fun w hs=>run_loadN ty44 rfl hdl hs.a1)<|AL.one 9 (by kernel_rfl) rfl (by exact Step.dropR (L1:=[_,_]) hs) (by exact Step.dropR (L1:=[_,_]) hs) ?_
   refine wE rfl (run_call en158 rfl rfl) (hpr hs) ?_
   rintro e w ⟨u,Lu,rfl,hu,hq⟩
   refine⟨_,rfl,?_⟩
   replace hs:=Step.call0 hs hq
   refine wZ<|⟨rfl,?_⟩
   refine aV 10 rfl (fun w hs=>run_assign)<|AL.end (by kernel_rfl) (by exact Step.dropR (L1:=[_,_]) (hs.dropL (L1:=Lu))) (by exact Step.dropR (L1:=[_,_]) (hs.dropL (L1:=Lu))) ?_
   exact⟨rfl,u,Lu,hu,Step.tE hs,rfl,rfl,rfl,trivial⟩
  clear hs
  rintro f w ⟨u,Lu,hu,hs,hf⟩
  have ob:=hf.chain
  obtain⟨gg,rfl⟩:=ob
  have ob:∃l,partsM s m d=l:=⟨_,rfl⟩
  obtain⟨l,hl⟩:=ob
  have hll:=hpl d
  rw[hl] at hu hg1 hll
  have hlU:∀x∈l,x∈ordM m:=fun x hx=>hM.sub d hdU x (hl▸hx)
  have ob:=hu.form
  obtain⟨ua,uc,rfl⟩:=ob
  have hnd1:(g++[d]).Nodup:=by
   rw[List.nodup_append]
   refine⟨hnd,List.nodup_cons.2 ⟨by simp,List.nodup_nil⟩,fun a ha b hb he=>?_⟩
   rw[List.mem_singleton] at hb
   exact hdg (hb▸he▸ha)
  have hgU1:∀x∈g++[d],x∈ordM m:=fun x hx=>by
   rcases List.mem_append.1 hx with hx | hx
   ·exact hgU x hx
   ·rw[List.mem_singleton] at hx;exact hx▸hdU
  refine CW.seqM (fun f w=>∃vg2 Lg2 vo2 Lo2,OwnSl 44 32 vg2 g1.length (digsL g1) Lg2∧OwnSl 44 32 vo2 o1.length (digsL o1) Lo2∧o1.length≤65536∧Step S ((b3,blk 44 (u8s d))::(bG,blk 225 [.pointer (some ⟨br,0,none⟩),.slice la m.length lc,vg2,vo2])::(Lo2++(Lg2++(Lu++B)))) w0 w∧Holds f [(0,.pointer (some ⟨bG,0,none⟩)),(3,.pointer (some ⟨b3,0,none⟩))]) ?_ ?_
  ·refine sr<|wA<|wZ<|cB<|CW.loop (fun z f w'=>∃i gi oi Wi ki,i≤l.length∧z=l.length - i∧Goes (partsM s m) (l.drop i) gi oi g1 o1 ki∧ki≤k1∧gi.Nodup∧(∀x∈gi,x∈ordM m)∧oi.length+1≤gi.length∧GRep bG br (.slice la m.length lc) gi oi Wi∧Step S (((b3,blk 44 (u8s d))::Lu)++(Wi++B)) w0 w'∧Holds f [(0,.pointer (some ⟨bG,0,none⟩)),(3,.pointer (some ⟨b3,0,none⟩)),(4,.slice ua l.length uc),(5,.int .i64 (i:Nat))]) (m:=l.length) ?_ ?_
   ·exact⟨0,g++[d],o,_,k1,Nat.zero_le _,rfl,hg1,Nat.le_refl _,hnd1,hgU1,by rw[List.length_append,List.length_singleton];omega,⟨vg',Lg',vo,Lo,rfl,hvg',hvo⟩,hs,rfl,rfl,rfl,rfl,trivial⟩
   clear hs
   rintro z f w ⟨i,gi,oi,Wi,ki,hil,rfl,hGi,hki,hndi,hgUi,holi,hWi,hs,hf⟩
   have ob:=hf.chain
   obtain⟨gs,rfl⟩:=ob
   by_cases hlt:i<l.length
   ·have ob:∃x,l[i]=x:=⟨_,rfl⟩
    obtain⟨x,hx⟩:=ob
    have hxm:x∈l:=hx▸List.getElem_mem hlt
    have hx32:=hM.len x (hlU x hxm)
    have hxl:(u8s x).length=32:=by rw[u8s,List.length_map,hx32]
    rw[List.drop_eq_getElem_cons hlt,hx] at hGi
    have ob:=hGi.split
    obtain⟨g2,o2,ka,kb,hGx,hGr,hka,hkb⟩:=ob
    have ob:=hu.some1 (by omega)
    obtain⟨bu,cu,more,hu1,hu2,hu3⟩:=ob
    cases hu1
    subst hu2
    have hxat:At w bu (0+i*32) (u8s x):=digsL_at (fun y hy=>hM.len y (hlU y hy)) (At.of_blk (hs.has (bu,blk 44 (digsL l++more)) (by simp))).left (by rw[List.getElem?_eq_getElem hlt,hx])
    have hto:=fun h=>ih ka (by omega) (w0:=w) hGx (hlU x hxm) hndi hgUi (by omega) hWi h
    rw[hB] at hto
    refine cq<|sr<|wm<|wm<|wV (run_lenSl u35 rfl)<|wV (run_bT (run_lss rfl rfl) (by omega))<|wZ<|CW.cond rfl (fun h=>?_) (fun h=>?_)
    ·refine ck<|cq<|cB<|cr<|wm<|wm<|wm<|wV (run_ixSlN u35 ty44 rfl rfl (by omega))<|wV (run_loadN ty44 rfl hxl hxat)<|wE rfl (run_call en120 rfl rfl) (hto (Own.live (A:=[_,_]) hs)) ?_
     rintro e w ⟨W2,rfl,hG2,hq⟩
     refine⟨_,rfl,?_⟩
     replace hs:=Own.set (A:=[_,_]) hs hq
     refine wZ<|cr<|wm<|wV (run_add (c:=((i+1:Nat):Int)) rfl rfl (by omega) (by omega))<|wA<|wZ<|(show _∧_ from⟨rfl,_,?_,i+1,g2,o2,W2,kb,hlt,rfl,hGr,Nat.le_trans hkb hki,hGx.nodup hndi,?_,hGx.len 1 holi,hG2,hs,rfl,rfl,rfl,rfl,trivial⟩)
     ·omega
     ·exact hGx.sub hM.sub (fun y hy=>by obtain rfl:=List.mem_singleton.1 hy;exact hlU _ hxm) hgUi
    ·cases h
   ·obtain rfl:i=l.length:=by omega
    rw[List.drop_length] at hGi
    refine cq<|sr<|wm<|wm<|wV (run_lenSl u35 rfl)<|wV (run_bF (run_lss rfl rfl) (by omega))<|wZ<|CW.cond rfl (fun h=>?_) (fun h=>?_)
    ·cases h
    have hgl1:=nodup_len hndi hgUi
    cases hGi
    obtain⟨vg2,Lg2,vo2,Lo2,hWe,hv2,hv3⟩:=hWi
    subst hWe
    refine CW.exit ?_
    exact⟨rfl,vg2,Lg2,vo2,Lo2,hv2,hv3,by omega,Step.tC hs,rfl,rfl,trivial⟩
  clear hs
  rintro f w ⟨vg2,Lg2,vo2,Lo2,hv2,hv3,hol2,hs,hf⟩
  have ob:=hf.chain
  obtain⟨gt,rfl⟩:=ob
  have ob:=hv3.form
  obtain⟨oa,oc,rfl⟩:=ob
  refine CW.any (A:=fun w=>Step S [(b3,blk 44 (u8s d))] w0 w) (C:=fun w=>Step S [(b3,blk 44 (u8s d)),(bG,blk 225 [.pointer (some ⟨br,0,none⟩),.slice la m.length lc,vg2,.slice oa o1.length oc])] w0 w) 10 11 mixedP rfl ?_
  replace hs:=hs.drew
  refine aM 0 rfl<|aM 1 rfl<|aV 2 rfl (fun w hs=>run_nilCheck rfl)<|aV 3 rfl (fun w hs=>run_field (o':=3) u225 rfl ty35 rfl rfl rfl)<|aV 4 rfl (fun w hs=>run_load1 ty35 rfl (hs.c1 rfl))<|aV 5 rfl (fun w hs=>run_loadN ty44 rfl hdl hs.a0)<|AL.one 6 (by kernel_rfl) rfl (by exact Step.dropR (L1:=[(b3,_)]) hs) (by exact Step.dropR (L1:=[_,_]) hs) ?_
  refine WL.buildSlice (cs:=u8s d) u35 ty44 rfl (by decide) rfl (filled1 hdl rfl) rfl hs (fun b50 w hs=>?_)
  have hsl50:Sl w 32 (.slice (some ⟨b50,0,none⟩) 1 1) 1 (u8s d):=.own1 hs (by rw[hdl])
  replace hs:=Step.in3 hs
  refine wZ<|⟨rfl,?_⟩
  refine AL.one 7 (by kernel_rfl) rfl (by exact Step.dropR (L1:=[(b3,_)]) (hs.dropL (L1:=Lo2)).tail) (by exact Step.dropR (L1:=[_,_]) (hs.dropL (L1:=Lo2)).tail) ?_
  refine WL.append u35 u35 ty44 rfl (by decide) rfl rfl (hv3) (hs) (hsl50) (Cells1.u8s _) (by omega) rfl (fun v51 Lv51 w hv51 hs=>?_)
  replace hs:=Step.out3 hs
  refine wZ<|⟨rfl,?_⟩
  refine AL.valA 8 rfl (by kernel_rfl) rfl (fun w hs=>run_nilCheck rfl) ?_
  refine aV 9 rfl (fun w hs=>run_field (o':=3) u225 rfl ty35 rfl rfl rfl)<|AL.one 10 (by kernel_rfl) rfl (by exact Step.dropR (L1:=[(b3,_)]) hs) (by exact Step.dropR (L1:=[_,_]) hs) ?_
  refine ws1 ty35 rfl rfl (hv51.one) (hs.swap) (fun w hs=>?_)
  refine wZ<|⟨rfl,?_⟩
  refine AL.relax (by kernel_rfl) ?_
  refine AL.end (by kernel_rfl) (by exact Step.dropR (L1:=[(b3,_)]) hs.tail) (trivial) ?_
  refine fin_end0 rfl ?_
  have hsF:=Step.tF hs
  refine⟨_,rfl,⟨vg2,Lg2,v51,Lv51,rfl,by rw[hg'];exact hv2,?_⟩,hfin hsF⟩
  rw[ho',List.length_append,digsL_snoc];exact hv51
end
theorem bld_go (a b:Option Addr) (n c:Nat) (w:World):(Instr.build 225 #[(0,.pointer a),(1,.slice b n c)]).run Tryz.prog w=.ok (.agg #[.pointer a,.slice b n c,.slice none 0 0,.slice none 0 0]) w:=by kernel_rfl
theorem Step.nilR{S:List Nat}{L:List (Nat×Obj)}{w w':World} (h:Step S (L++[]) w w'):Step S L w w':=by rw[List.append_nil] at h;exact h
section
variable{br:Nat}{s:AS}{D R LvL:List (Nat×Obj)}{r:List UInt8}{m:List (List UInt8×Bool)}{vL:Value}{gf of:List (List UInt8)}{k:Nat}{w0:World}
theorem behindR_spec (hR:RRep br s D R) (ok:s.Ok) (hM:Met s r m) (hL:OwnSl 137 33 vL m.length (rowsSt m) LvL) (hLD:∀p∈LvL,p∈D) (hm:m.length≤65536) (h32m:∀p∈m,p.1.length=32) (hpl:∀d,(partsM s m d).length<1000000000) (hG:Goes (partsM s m) [r] [] [] gf of k) (hw:Lives (R++D) w0) :
  Calls Tryz.prog 71 #[.pointer (some ⟨br,0,none⟩),vL] w0 fun e w'=>∃v Lv,e=.returned v∧OwnSl 44 32 v of.length (digsL of) Lv∧Step [] Lv w0 w':=by
 have hrU:=List.mem_of_getElem? hM.head
 have hr32:=hM.len r hrU
 have hrl:(u8s r).length=32:=by rw[u8s,List.length_map,hr32]
 obtain⟨pb,hp0⟩:∃pb,m[0]?=some (r,pb):=by
  cases hme:m with
  | nil=>have h:=hM.head;rw[hme] at h;cases h
  | cons p rest=>
   obtain⟨pd,pb⟩:=p
   have h:=hM.head
   rw[hme,ordM_head pb rest] at h
   obtain rfl:=Option.some.inj h
   exact⟨pb,rfl⟩
 have hm0:0<m.length:=(List.getElem?_eq_some_iff.1 hp0).1
 have hL0:=hL
 have ob:=hL.some1 hm0
 obtain⟨bl,cl,more,hl1,hl2,hl3⟩:=ob
 subst hl1
 have hs:Step [] [] w0 w0:=Step.refl w0
 have hrow:At w0 bl (0+0*33) (u8s r):=(rowsSt_at h32m (At.of_blk (hw.has (bl,blk 137 (rowsSt m++more)) (List.mem_append_right _ (hLD _ (by rw[hl2];simp))))).left hp0).left
 refine calls (n:=20) Tryz.func71 rfl rfl rfl ?_
 refine sr<|wA<|wZ<|sr<|wm<|wm<|wV (run_build rfl (bld_go _ _ _ _ _))<|WL.box (cs:=[.pointer (some ⟨br,0,none⟩),.slice (some ⟨bl,0,none⟩) m.length cl,.slice none 0 0,.slice none 0 0]) rfl rfl rfl hs (fun b9 w hs=>?_)
 refine wA<|wZ ?_
 have hG0:GRep b9 br (.slice (some ⟨bl,0,none⟩) m.length cl) [] [] [(b9,blk 225 [.pointer (some ⟨br,0,none⟩),.slice (some ⟨bl,0,none⟩) m.length cl,.slice none 0 0,.slice none 0 0])]:=⟨_,[],_,[],rfl,OwnSl.nil _ _,OwnSl.nil _ _⟩
 refine sr<|wm<|wm<|wV (run_ixSlN (i:=0) u133 ty137 rfl rfl (by omega))<|wF 0 u137 rfl ty44 rfl<|wV (run_loadN ty44 rfl hrl (hrow.step hs.clear (by simp)))<|wE rfl (run_call en120 rfl rfl) (to_spec (w0:=w) hR ok hM hL0 hLD hm h32m hpl k hG hrU List.nodup_nil (fun x hx=>by cases hx) (Nat.le_refl _) hG0 (Lives.mk (Step.call0 hw hs))) ?_
 rintro e w ⟨W1,rfl,hG1,hq⟩
 refine⟨_,rfl,?_⟩
 replace hs:=Step.nilR (Step.call (L1:=[_]) (L:=[]) hs hq)
 refine wZ ?_
 obtain⟨vg,Lg,vo,Lo,hWe,hvg,hvo⟩:=hG1
 subst hWe
 refine sr<|wm<|wn rfl<|wF 3 u225 rfl ty35 rfl<|wl ty35 rfl (hs.c0 (v:=vo) rfl)<|wA<|wZ<|CW.ret ?_
 refine fin_ret1 rfl ?_
 exact⟨_,Lo,rfl,hvo,Step.dropL (L1:=Lg) hs.tail⟩
end
end Go.Gx
namespace Go.Gx
open Go.Proofs
theorem entsP_len{bs:List UInt8}:∀{n:Nat}{a:List UInt8}{p q:Nat}{l:List Ent},entsP bs n a p=.ok (l,q)→l.length=n
 | 0,a,p,q,l,h=>by
  unfold entsP at h
  injection h with h;injection h with h1 h2
  subst h1;rfl
 | n+1,a,p,q,l,h=>by
  unfold entsP at h
  split at h
  ·cases h
  ·rename_i x q' h1
   split at h
   ·cases h
   ·rename_i l' r h2
    injection h with h;injection h with h3 h4
    subst h3
    rw[List.length_cons,entsP_len h2]
theorem decL_len (y:List UInt8):(decL y).length≤1024:=by
 unfold decL
 split
 ·unfold readP
  split
  ·exact Nat.zero_le _
  ·rename_i l q h
   split
   ·exact Nat.zero_le _
   ·unfold decP at h
    split at h
    ·cases h
    ·split at h
     ·split at h
      ·cases h
      ·rename_i n q' hm
       have h1:=entsP_len h
       have h2:=(mostP_ok hm).2.2
       show l.length≤1024
       omega
     ·cases h
 ·exact Nat.zero_le _
theorem partsM_len (s:AS) (m:List (List UInt8×Bool)) (d:List UInt8):(partsM s m d).length<1000000000:=by
 unfold partsM
 split
 ·unfold partsD
  rw[List.length_map]
  have:=decL_len (s.get d).1
  omega
 ·decide
def addAll:List (List (List UInt8))→List UInt8→Int→List UInt8×Int
 | [],c,ft=>(c,ft)
 | ps::l,c,ft=>addAll l (addC c ft ps) (addF c ft ps)
theorem addAll_err{ft:Int} (h:ft≠0):∀(l:List (List (List UInt8))) (c:List UInt8),addAll l c ft=(c,ft)
 | [],c=>rfl
 | ps::l,c=>by
  have h1:addF c ft ps=ft:=by unfold addF;rw[if_neg (fun hh=>h hh.1)]
  have h2:addC c ft ps=c:=by unfold addC;rw[h1,if_neg h]
  rw[addAll,h1,h2,addAll_err h l c]
theorem addAll_snoc (ps:List (List UInt8)):∀(l:List (List (List UInt8))) (c:List UInt8) (ft:Int),addAll (l++[ps]) c ft=(addC (addAll l c ft).1 (addAll l c ft).2 ps,addF (addAll l c ft).1 (addAll l c ft).2 ps)
 | [],c,ft=>rfl
 | qs::l,c,ft=>by rw[List.cons_append,addAll,addAll,addAll_snoc ps l]
theorem addAll_ok:∀(l:List (List (List UInt8))) (c:List UInt8),c.length≤4194304→(addAll l c 0).2=(if c.length+(l.flatMap List.flatten).length≤4194304 then 0 else 2)∧(c.length+(l.flatMap List.flatten).length≤4194304→(addAll l c 0).1=c++l.flatMap List.flatten)
 | [],c,h=>by simp[addAll,h]
 | ps::l,c,h=>by
  by_cases hb:c.length+ps.flatten.length≤4194304
  ·have h1:addF c 0 ps=0:=by unfold addF;rw[if_neg (by omega)]
   have h2:addC c 0 ps=c++ps.flatten:=by unfold addC;rw[h1,if_pos rfl]
   have ih:=addAll_ok l (c++ps.flatten) (by rw[List.length_append];exact hb)
   rw[addAll,h1,h2]
   rw[List.length_append] at ih
   rw[List.flatMap_cons,List.length_append,←Nat.add_assoc,←List.append_assoc]
   exact ih
  ·have h1:addF c 0 ps=2:=by unfold addF;rw[if_pos ⟨rfl,by omega⟩]
   rw[addAll,h1,addAll_err (by decide),List.flatMap_cons,List.length_append]
   refine⟨?_,fun hh=>?_⟩
   ·rw[if_neg (by omega)]
   ·omega
theorem addAll_le:∀(l:List (List (List UInt8))) (c:List UInt8) (ft:Int),c.length≤4194304→(addAll l c ft).1.length≤4194304
 | [],c,ft,h=>h
 | ps::l,c,ft,h=>by
  refine addAll_le l _ _ ?_
  unfold addC
  by_cases hf:addF c ft ps=0
  ·rw[if_pos hf]
   unfold addF at hf
   by_cases hx:ft=0∧c.length+ps.flatten.length > 4194304
   ·rw[if_pos hx] at hf;cases hf
   ·rw[if_neg hx] at hf
    rw[List.length_append]
    have:¬(c.length+ps.flatten.length > 4194304):=fun hh=>hx ⟨hf,hh⟩
    omega
  ·rw[if_neg hf];exact h
def packB (k:Nat) (l:List (List UInt8)):List UInt8:=formB 5++formB k++formB l.length++l.flatMap fun x=>formB x.length++x
theorem done_bad{b:Nat}{c:List UInt8}{ft:Int}{Lw:List (Nat×Obj)} (w0:World) (hW:Wr b c ft Lw) (hO:Step (Lw.map (·.1)) Lw w0 w0) (hft:ft≠0) :
  Calls Tryz.prog 87 #[.pointer (some ⟨b,0,none⟩)] w0 (Ret0 (.tuple #[.slice none 0 0,.int .i64 ft]) w0):=by
 obtain⟨v,Lv,rfl,hv⟩:=hW
 have hb:w0.heap[b]?=some (blk 237 [v,.int .i64 ft]):=hO.has (b,blk 237 [v,.int .i64 ft]) (by simp)
 have hat:At w0 b 0 [v,.int .i64 ft]:=At.of_blk hb
 have hs:Step [] [] w0 w0:=Step.refl w0
 refine calls (n:=18) Tryz.func87 rfl rfl rfl ?_
 refine sr<|wA<|wA<|wZ<|cq<|sr<|wm<|wn rfl<|wF 1 u237 rfl ty36 rfl<|wl ty36 rfl ((hat.step hs.clear (by simp)).cell (j:=1) rfl)<|wV (run_bT (run_neq rfl rfl) (by exact hft))<|wZ ?_
 refine CW.cond rfl (fun h=>?_) (fun h=>?_)
 ·refine cq<|CW.quiet mixedP (by kernel_rfl) hs ?_
  refine qm<|qn rfl<|qF 1 u237 rfl ty36 rfl<|qV (fun w hs=>run_load1 ty36 rfl ((hat.step hs.clear (by simp)).cell (j:=1) rfl))<|qV (fun w hs=>run_assign)<|qV (fun w hs=>run_assign)<|QL.nil (fun w hs=>?_)
  refine CW.ret ?_
  refine fin_ret2 rfl ?_
  exact⟨rfl,hs.clear⟩
 ·cases h
end Go.Gx
namespace Go.Gx
open Go.Proofs
attribute [local irreducible] shaL cutD frontL
theorem Met.of_le{s:AS}{d:List UInt8}{m:List (List UInt8×Bool)}{gf of:List (List UInt8)}{k:Nat} (h:Met s d m) (hG:Goes (partsM s m) [d] [] [] gf of k):of.length≤m.length∧∀x∈of,x∈ordM m:=by
 have h1:=hG.nodup List.nodup_nil
 have h2:=hG.sub h.sub (fun x hx=>by obtain rfl:=List.mem_singleton.1 hx;exact List.mem_of_getElem? h.head) (fun x hx=>by cases hx)
 have ob:=hG.ext
 obtain⟨n,t,e1,e2,hp⟩:=ob
 rw[List.nil_append] at e1 e2
 subst e1
 subst e2
 have h3:=nodup_len h1 h2
 have h4:=ordM_len m
 exact⟨by rw[hp.length_eq];omega,fun x hx=>h2 x (hp.mem_iff.1 hx)⟩
def packR (s:AS) (r:Int×WS) (of:List (List UInt8)):List UInt8×Int:=if r.1≠0 then ([],r.1) else if (packB s.k (of.map fun d=>(s.get d).1)).length≤4194304 then (packB s.k (of.map fun d=>(s.get d).1),0) else ([],2)
theorem Step.kDrop{S:List Nat}{A B C X:List (Nat×Obj)}{w w':World} (h:Step S (A++(B++(C++X))) w w'):Step S (A++X) w w':=Step.dropL (L1:=B++C) (h.perm (by classical exact List.perm_iff_count.2 fun x=>by simp only[List.count_append];omega))
theorem Step.k3{S:List Nat}{a p q:Nat×Obj}{A B E Z X:List (Nat×Obj)}{w w':World} (h:Step S (a::(A++(B++(E++((p::q::Z)++X))))) w w'):Step S [a,p,q] w w':=Step.dropR (L1:=[a,p,q]) (L2:=A++(B++(E++(Z++X)))) (h.perm (by classical exact List.perm_iff_count.2 fun x=>by simp only[List.count_append,List.count_cons,List.count_nil];omega))
theorem Step.k4{S:List Nat}{a p q:Nat×Obj}{A B E Z X:List (Nat×Obj)}{w w':World} (h:Step S (A++(a::(B++(E++((p::q::Z)++X))))) w w'):Step S [a,p,q] w w':=Step.dropR (L1:=[a,p,q]) (L2:=A++(B++(E++(Z++X)))) (h.perm (by classical exact List.perm_iff_count.2 fun x=>by simp only[List.count_append,List.count_cons,List.count_nil];omega))
theorem Step.noM{S:List Nat}{L1 M X:List (Nat×Obj)}{w w':World} (h:Step S (L1++(M++X)) w w'):Lives (L1++X) w':=Lives.of (L2:=M) (h.perm (by classical exact List.perm_iff_count.2 fun x=>by simp only[List.count_append];omega))
def pcs (s:AS) (n:Nat) (l:List (List UInt8)):List (List (List UInt8)):=[[formB 5],[formB s.k],[formB n]]++l.map fun d=>[formB (s.get d).1.length,(s.get d).1]
theorem pcs_snoc (s:AS) (n:Nat) (l:List (List UInt8)) (d:List UInt8):pcs s n (l++[d])=pcs s n l++[[formB (s.get d).1.length,(s.get d).1]]:=by simp[pcs]
theorem pcs_packB (s:AS) (l:List (List UInt8)):(pcs s l.length l).flatMap List.flatten=packB s.k (l.map fun d=>(s.get d).1):=by
 have h:∀l:List (List UInt8),(l.map fun d=>[formB (s.get d).1.length,(s.get d).1]).flatMap List.flatten=(l.map fun d=>(s.get d).1).flatMap fun x=>formB x.length++x:=by
  intro l
  induction l with
  | nil=>rfl
  | cons x l ih=>rw[List.map_cons,List.flatMap_cons,ih,List.map_cons,List.flatMap_cons];simp
 rw[pcs,List.flatMap_append,h,packB,List.length_map]
 simp[List.append_assoc]
section
variable{bp:Nat}{s:AS}{D L:List (Nat×Obj)}{d:List UInt8}{w0:World}{rn rd rb:Int}{N k:Nat}{gf of:List (List UInt8)}
set_option maxHeartbeats 8000000 in
theorem pack_spec (hR:PRep bp s D L) (ok:s.Ok) (hfew:s.Few N) (hN:N<1000000000) (hd:d.length=32) (hrm:(rmOf rn rd rb).Ok) (hG:(runs s (rmOf rn rd rb) [rootS d] ws0).1=0→Goes (partsM s (runs s (rmOf rn rd rb) [rootS d] ws0).2.m) [d] [] [] gf of k) (hw:Lives (L++D) w0) :
  Calls Tryz.prog 33 #[.pointer (some ⟨bp,0,none⟩),.agg (u8s d).toArray,.agg #[.int .i64 rn,.int .i64 rd,.int .i64 rb]] w0 fun e w'=>∃v Lv L' D',e=.returned (.tuple #[v,.int .i64 (packR s (runs s (rmOf rn rd rb) [rootS d] ws0) of).2])∧
   PRep bp (s.gotN (runs s (rmOf rn rd rb) [rootS d] ws0).2.g) (D'++D) L'∧OwnSl 5 1 v (packR s (runs s (rmOf rn rd rb) [rootS d] ws0) of).1.length (u8s (packR s (runs s (rmOf rn rd rb) [rootS d] ws0) of).1) Lv∧Step (L.map (·.1)) (L'++(Lv++D')) w0 w':=by
 have hw9:=fun{w1:World} h=>fwalk_spec (w0:=w1) hR ok hfew hN hd hrm h
 have hmet:=fun{t:WS} h=>runs_met (s:=s) (rm:=rmOf rn rd rb) (t:=t) hd h
 have ob:∃r,runs s (rmOf rn rd rb) [rootS d] ws0=r:=⟨_,rfl⟩
 obtain⟨r,hr⟩:=ob
 rw[hr] at hw9 hG⊢
 have hdl:(u8s d).length=32:=by rw[u8s,List.length_map,hd]
 have hs:Step (List.map (·.1) (L++D)) (L++D) w0 w0:=hw
 refine calls (n:=56) Tryz.func33 rfl rfl rfl ?_
 refine sr<|WL.box (cs:=u8s d) rfl rfl rfl hs (fun b4 w hs=>?_)
 refine WL.box (cs:=[.int .i64 rn,.int .i64 rd,.int .i64 rb]) rfl rfl rfl hs (fun b5 w hs=>?_)
 refine wA<|wA<|wZ<|sr<|wm<|wV (run_loadN ty44 rfl hdl hs.a1)<|wV (run_loadN ty30 rfl rfl hs.a0)<|wE rfl (run_call en64 rfl rfl) (hw9 (Lives.mk hs.tail.tail)) ?_
 rintro e w ⟨v,L1,D1,M,rfl,hP,hM,hnil,hq⟩
 refine⟨_,rfl,?_⟩
 replace hs:=Own.put (A:=[_,_]) (L:=L) hs hq
 refine wm<|wx rfl rfl<|wx rfl rfl<|wA<|wA<|wZ ?_
 replace hs:=hs.tail.tail
 by_cases he:r.1≠0
 ·have hre:packR s r of=([],r.1):=if_pos he
  rw[hre]
  refine cq<|sr<|wm<|wV (run_bT (run_neq rfl rfl) (by exact he))<|wZ<|CW.cond rfl (fun h=>?_) (fun h=>?_)
  ·refine sr<|wm<|wA<|wA<|wZ<|CW.ret ?_
   refine fin_ret2 rfl ?_
   exact⟨_,[],L1,M++D1,rfl,by rw[List.append_assoc];exact hP.mono mem_right,OwnSl.nil _ _,Step.fin (M:=[]) hw hs⟩
  ·cases h
 have he0:r.1=0:=by simpa using he
 have hmet:=hmet (t:=r.2) (by rw[hr,←he0])
 have ob:=hM he0
 obtain⟨bm,rfl,hMet⟩:=ob
 refine cq<|sr<|wm<|wV (run_bF (run_neq rfl rfl) (by exact he))<|wZ<|CW.cond rfl (fun h=>?_) (fun h=>?_)
 ·cases h
 have hgd:=standP_good (s:=s) (rm:=rmOf rn rd rb) hrm 34 (x:=rootS d) (t:=ws0) (ws0_good.mono (by omega))
 rw[←runs_root,hr] at hgd
 have hgd:=hgd he0
 have hml:r.2.m.length≤65536:=Nat.le_trans hgd.m hgd.n
 rw[List.append_assoc] at hs
 refine ck<|sr<|wm<|wE rfl (run_call en70 rfl rfl) (behind_spec hMet (Lives.mk (Step.dropL (L1:=L1) hs)) hmet.len hmet.sub (partsM_len s _) hml hmet.head (hG he0)) ?_
 rintro e w ⟨vo,Lo,rfl,hvo,hq⟩
 refine⟨_,rfl,?_⟩
 replace hs:=Step.call0 hs hq
 refine wA<|wZ ?_
 have ob:=hvo.form
 obtain⟨oa,oc,rfl⟩:=ob
 refine sr<|wE rfl (run_call en84 rfl rfl) (mnew_spec _) ?_
 rintro e w ⟨bw,Lw,rfl,hWr,hq⟩
 refine⟨_,rfl,?_⟩
 replace hs:=Step.call0 hs hq
 refine wA<|wZ<|sr<|wm<|wE rfl (run_call en85 rfl rfl) (num_spec 5 _ (by omega) hWr (Step.own hs) (by simp)) ?_
 rintro e w ⟨rfl,Lw1,hWr1,hq⟩
 refine⟨_,rfl,?_⟩
 replace hs:=Step.call (L1:=Lw) hs hq
 refine wZ ?_
 have hk1:=ok.k1
 have hk2:=ok.k2
 have hwid:=fun{w:World} (h:Step (List.map (·.1) (L++D)) (Lw1++(Lo++(L1++(M++(D1++D))))) w0 w)=>width_abs hP (ok.gotN _) (Step.noM (Step.dropL (L1:=Lo) (Step.dropL (L1:=Lw1) h)))
 have ob:=hmet.of_le (hG he0)
 obtain⟨hol,hofU⟩:=ob
 refine sr<|wm<|wm<|wE rfl (run_call en69 rfl rfl) (hwid hs) ?_
 rintro e w ⟨rfl,hq⟩
 refine⟨_,rfl,?_⟩
 replace hs:=hs.callE hq
 refine wE rfl (run_call en85 rfl rfl) (num_spec s.k _ (by omega) hWr1 (Step.own hs) (addAll_le [[formB 5]] [] 0 (by simp))) ?_
 rintro e w ⟨rfl,Lw2,hWr2,hq⟩
 refine⟨_,rfl,?_⟩
 replace hs:=Step.call (L1:=Lw1) hs hq
 refine wZ<|sr<|wm<|wm<|wV (run_lenSl u35 rfl)<|wE rfl (run_call en85 rfl rfl) (num_spec of.length _ (by omega) hWr2 (Step.own hs) (addAll_le [[formB 5],[formB s.k]] [] 0 (by simp))) ?_
 rintro e w ⟨rfl,Lw3,hWr3,hq⟩
 refine⟨_,rfl,?_⟩
 replace hs:=Step.call (L1:=Lw2) hs hq
 refine wZ<|CW.seqM (fun f w=>∃Lw',Wr bw (addAll (pcs s of.length of) [] 0).1 (addAll (pcs s of.length of) [] 0).2 Lw'∧Step (List.map (·.1) (L++D)) (Lw'++(Lo++(L1++(M++(D1++D))))) w0 w∧Holds f [(0,.pointer (some ⟨bp,0,none⟩)),(11,.pointer (some ⟨bw,0,none⟩))]) ?_ ?_
 ·refine sr<|wm<|wV (run_lenSl u35 rfl)<|wm<|wZ<|cB<|CW.loop (fun z f w'=>∃i Lw',i≤of.length∧z=of.length - i∧Wr bw (addAll (pcs s of.length (of.take i)) [] 0).1 (addAll (pcs s of.length (of.take i)) [] 0).2 Lw'∧Step (List.map (·.1) (L++D)) (Lw'++(Lo++(L1++(M++(D1++D))))) w0 w'∧Holds f [(0,.pointer (some ⟨bp,0,none⟩)),(8,.pointer (some ⟨bm,0,none⟩)),(11,.pointer (some ⟨bw,0,none⟩)),(37,.slice oa of.length oc),(38,.int .i64 (of.length:Nat)),(39,.int .i64 (i:Nat))]) (m:=of.length) ?_ ?_
  ·exact⟨0,Lw3,Nat.zero_le _,rfl,hWr3,hs,rfl,rfl,rfl,rfl,rfl,rfl,trivial⟩
  clear hs
  rintro z f w ⟨i,Lw',hil,rfl,hWr',hs,hf⟩
  have ob:=hf.chain
  obtain⟨g,rfl⟩:=ob
  by_cases hlt:i<of.length
  ·have ob:∃x,of[i]?=some x:=⟨_,List.getElem?_eq_getElem hlt⟩
   obtain⟨x,hx⟩:=ob
   have hxU:=hofU x (List.mem_of_getElem? hx)
   have hx32:=hmet.len x hxU
   have hxl:(u8s x).length=32:=by rw[u8s,List.length_map,hx32]
   have hgx:=get_len ok x
   have ob:=hvo.some1 (by omega)
   obtain⟨bu,cu,more,hu1,hu2,hu3⟩:=ob
   cases hu1
   subst hu2
   have hxat:At w bu (0+i*32) (u8s x):=digsL_at (fun y hy=>hmet.len y (hofU y hy)) (At.of_blk (hs.has (bu,blk 44 (digsL of++more)) (by simp))).left hx
   obtain⟨vO,LO,q1,M1,c1,q2,M2,c2,rfl,hO,hB,hPm⟩:=hMet
   have hbv:=hB.val x
   obtain⟨u,hu,hHl⟩:∃u,((findD x M1 0).map (·.2)).getD (.slice none 0 0)=u∧Held (D1++D) u (s.get x).1:=by
    cases hv:valD x M1 with
    | none=>rw[hv] at hbv;exact absurd hxU hbv
    | some u=>
     rw[hv] at hbv
     refine⟨u,?_,hbv.2⟩
     show(valD x M1).getD _=_
     rw[hv];rfl
   refine sr<|wV (run_bT (run_lss rfl rfl) (by omega))<|wZ<|cq<|CW.cond rfl (fun h=>?_) (fun h=>?_)
   ·refine ck<|cq<|cB<|sr<|wV (run_ixSlN u35 ty44 rfl rfl (by omega))<|wV (run_loadN ty44 rfl hxl hxat)<|WL.alloc ty44 rfl hs (fun b13 w hs=>?_)
    refine WL.storeAll ty44 rfl rfl ((hxl)) ((Cells1.u8s _)) hs (by rfl) (fun w hs=>?_)
    refine wZ ?_
    have ob:∃X,(L1++(((bm,blk 132 [vO,.map (some q1),.map (some q2)])::(q1,mapObj M1 c1)::(q2,mapObj M2 c2)::LO)++(D1++D)))=X:=⟨_,rfl⟩
    obtain⟨X,hX⟩:=ob
    have ob:=id hHl
    obtain⟨Lv,hOv,hsub⟩:=ob
    have hDX:∀p∈Lv,p∈X:=fun p hp=>hX▸List.mem_append_right _ (List.mem_append_right _ (hsub p hp))
    have hk3:∀{w:World},Step (List.map (·.1) (L++D)) ((b13,blk 44 (u8s x))::(Lw'++([(bu,blk 44 (digsL of++more))]++X))) w0 w→Step (List.map (·.1) (L++D)) [(b13,blk 44 (u8s x)),(bm,blk 132 [vO,.map (some q1),.map (some q2)]),(q1,mapObj M1 c1)] w0 w:=fun h=>Step.k3 (by rw[←hX] at h;exact h)
    have hk4:∀{Y:List (Nat×Obj)}{w:World},Step (List.map (·.1) (L++D)) (Y++((b13,blk 44 (u8s x))::([(bu,blk 44 (digsL of++more))]++X))) w0 w→Step (List.map (·.1) (L++D)) [(b13,blk 44 (u8s x)),(bm,blk 132 [vO,.map (some q1),.map (some q2)]),(q1,mapObj M1 c1)] w0 w:=fun h=>Step.k4 (by rw[←hX] at h;exact h)
    rw[hX] at hs
    have hby:=fun{w:World} (h:Step (List.map (·.1) (L++D)) ((b13,blk 44 (u8s x))::(Lw'++([(bu,blk 44 (digsL of++more))]++X))) w0 w)=>bytes_spec (u:=u) (s:=(s.get x).1) w hWr' (Step.own (L1:=Lw') (Step.pIn h)) (addAll_le _ [] 0 (by simp)) (hOv.slH fun p hp=>h.has p (by simp[hDX p hp])) (hOv.outside fun p hp=>(Step.append_comm (Step.pIn h)).disj p (by simp[hDX p hp])) (by omega)
    have htk:of.take (i+1)=of.take i++[x]:=by rw[List.take_add_one,hx];rfl
    refine CW.any (A:=fun w=>Step (List.map (·.1) (L++D)) [(b13,blk 44 (u8s x)),(bm,blk 132 [vO,.map (some q1),.map (some q2)]),(q1,mapObj M1 c1)] w0 w) (C:=fun w=>Step (List.map (·.1) (L++D)) [(b13,blk 44 (u8s x)),(bm,blk 132 [vO,.map (some q1),.map (some q2)]),(q1,mapObj M1 c1)] w0 w) 1000000 8 mixedP rfl ?_
    replace hs:=hs.drew
    refine aM 0 rfl<|aM 1 rfl<|aV 2 rfl (fun w hs=>run_nilCheck rfl)<|aV 3 rfl (fun w hs=>run_field (o':=1) u132 rfl ty129 rfl rfl rfl)<|aV 4 rfl (fun w hs=>run_load1 ty129 rfl (hs.c1 (v:=.map (some q1)) rfl))<|aV 5 rfl (fun w hs=>run_loadN ty44 rfl hxl hs.a0)<|aV 6 rfl (fun w hs=>run_lookupV u129 (zBytes _) hB.keys hx32 hu rfl rfl (hs.has (q1,mapObj M1 c1) (by simp)))<|AL.one 7 (by kernel_rfl) rfl (by exact hk3 hs) (by exact hk3 hs) ?_
    refine wE rfl (run_call en86 rfl rfl) (hby hs) ?_
    rintro e w ⟨rfl,Lw5,hW5,hq⟩
    refine⟨_,rfl,?_⟩
    replace hs:=Step.call (L1:=Lw') (Step.pIn hs) hq
    refine wZ<|⟨rfl,?_⟩
    refine AL.end (by kernel_rfl) (by exact hk4 hs) (by exact hk4 hs) ?_
    refine cr<|wV (run_add (c:=((i+1:Nat):Int)) rfl rfl (by omega) (by omega))<|wm<|wZ ?_
    have hs2:=Step.pOut hs
    rw[←hX] at hs2
    refine(show _∧_ from⟨rfl,_,?_,i+1,Lw5,hlt,rfl,?_,hs2,rfl,rfl,rfl,rfl,rfl,rfl,trivial⟩)
    ·omega
    ·rw[htk,pcs_snoc,addAll_snoc];exact hW5
   ·cases h
  ·obtain rfl:i=of.length:=by omega
   rw[List.take_length] at hWr'
   refine sr<|wV (run_bF (run_lss rfl rfl) (by omega))<|wZ<|cq<|CW.cond rfl (fun h=>?_) (fun h=>?_)
   ·cases h
   refine CW.exit ?_
   exact⟨rfl,Lw',hWr',hs,rfl,rfl,trivial⟩
 clear hs
 rintro f w ⟨Lw4,hWr4,hs,hf⟩
 have ob:=hf.chain
 obtain⟨g,rfl⟩:=ob
 have hal:=addAll_ok (pcs s of.length of) [] (by simp)
 rw[pcs_packB,List.length_nil,Nat.zero_add,List.nil_append] at hal
 by_cases hfit:(packB s.k (of.map fun d=>(s.get d).1)).length≤4194304
 ·have hre:packR s r of=(packB s.k (of.map fun d=>(s.get d).1),0):=by rw[packR,if_neg he,if_pos hfit]
  rw[hre]
  rw[hal.2 hfit,hal.1,if_pos hfit] at hWr4
  refine sr<|wm<|wE rfl (run_call en87 rfl rfl) (done_ok _ hWr4 (Step.own hs) hfit) ?_
  rintro e w ⟨v',Lv',rfl,hv',hq⟩
  refine⟨_,rfl,?_⟩
  replace hs:=Step.call0 hs hq
  refine wx rfl rfl<|wx rfl rfl<|wA<|wA<|wZ<|CW.ret ?_
  refine fin_ret2 rfl ?_
  exact⟨v',Lv',L1,M++D1,rfl,by rw[List.append_assoc];exact hP.mono mem_right,hv',Step.fin (M:=Lv') hw (by rw[List.append_assoc];exact Step.kDrop hs)⟩
 ·have hre:packR s r of=([],2):=by rw[packR,if_neg he,if_neg hfit]
  rw[hre]
  rw[hal.1,if_neg hfit] at hWr4
  refine sr<|wm<|wE rfl (run_call en87 rfl rfl) (done_bad _ hWr4 (Step.own hs) (by decide)) ?_
  rintro e w ⟨rfl,hq⟩
  refine⟨_,rfl,?_⟩
  replace hs:=hs.callE hq
  refine wx rfl rfl<|wx rfl rfl<|wA<|wA<|wZ<|CW.ret ?_
  refine fin_ret2 rfl ?_
  exact⟨_,[],L1,M++D1,rfl,by rw[List.append_assoc];exact hP.mono mem_right,OwnSl.nil _ _,Step.fin (M:=[]) hw (by rw[List.append_assoc];exact Step.dropL (L1:=Lo) (Step.dropL (L1:=Lw4) hs))⟩
end
end Go.Gx
namespace Go.Gx
open Go.Proofs
theorem doneR_long{v:Value}{l:List Wit} (w0:World) (hl:Sl w0 3 v l.length (rowsI l)) (hok:∀x∈l,x.ok w0) (hsum:4194304<(l.flatMap Wit.put).length) (hlen:l.length≤4398046511104) (hput:∀x∈l,x.put.length≤1099511627776) :
  Calls Tryz.prog 101 #[v] w0 (Ret0 (.tuple #[.slice none 0 0,.int .i64 2]) w0):=by
 have hs:Step [] [] w0 w0:=Step.refl w0
 obtain⟨a,c,rfl⟩:∃a c,v=.slice a l.length c:=by
  obtain⟨_,⟨_,c,rfl,h0⟩ | ⟨b,off,c,rfl,_⟩⟩:=hl
  ·exact⟨_,_,by rw[h0]⟩
  ·exact⟨_,_,rfl⟩
 refine calls (n:=42) Tryz.func101 rfl rfl rfl ?_
 refine sr<|wA<|wA<|wZ<|sr<|wA<|wZ<|cq<|sr<|wA<|wZ<|cB ?_
 refine CW.loop (fun m f w'=>∃k v Lv,k≤l.length∧m=l.length - k∧((l.take k).flatMap Wit.put).length≤4194304∧OwnSl 5 1 v ((l.take k).flatMap Wit.put).length (u8s ((l.take k).flatMap Wit.put)) Lv∧Step [] Lv w0 w'∧Holds f [(0,.slice a l.length c),(4,v),(5,.int .i64 k)]) (m:=l.length) ?_ ?_
 ·exact⟨0,_,[],by omega,by omega,by simp,.nil _ _,hs,rfl,rfl,rfl,trivial⟩
 ·rintro m f w ⟨k,v,Lv,hk,rfl,hfit,hv,hs,hf⟩
  have ob:=hf.chain
  obtain⟨g,rfl⟩:=ob
  have ob:=hv.form
  obtain⟨va,vc,rfl⟩:=ob
  have hcap:=Wit.put_len_take (l:=l) k
  refine cq<|sr<|wm<|wm<|wV (run_lenSl u190 rfl)<|wV (run_lss rfl rfl)<|wZ<|CW.condP rfl (fun h=>?_) (fun h=>?_)
  ·have hlt:k<l.length:=by omega
   obtain⟨_,⟨_,c1,h1,h0⟩ | ⟨lb,lo,c1,h1,hat⟩⟩:=hl
   ·omega
   injection h1 with h1 _ _
   subst h1
   have hax:=hat.item hlt
   have hxo:=hok _ (List.getElem_mem hlt)
   have hpx:=hput _ (List.getElem_mem hlt)
   have hcap':=Wit.put_len_take (l:=l) (k+1)
   have hfm:(l.take (k+1)).flatMap Wit.put=(l.take k).flatMap Wit.put++(l[k]).put:=by rw[List.take_succ_eq_append_getElem hlt,List.flatMap_append];simp
   rw[hfm,List.length_append] at hcap'
   generalize hX:l[k]=x at *
   by_cases h1:x.k=1
   ·refine ck<|cq<|cB<|cq<|sr<|wm<|wm<|wV (run_ixSlN u190 ty188 rfl rfl (by omega))<|wF 0 u188 rfl ty3 rfl<|wl ty3 rfl (((hax.step hs.clear (by simp)).cell rfl))<|wV (run_bT (run_eql rfl rfl) (by exact h1))<|wm<|wy<|wm<|wy<|wm<|wy<|wV (run_ixSlN u190 ty188 rfl rfl (by omega))<|wy<|wF 1 u188 rfl ty3 rfl<|wy<|wl ty3 rfl (((hax.step hs.clear (by simp)).cell (j:=1) rfl))<|wy<|wV (run_bF (run_lss rfl rfl) (by omega))<|wV (run_pickT rfl)<|wZ ?_
    refine cF rfl<|ck<|sr<|wm<|wm<|wV (run_ixSlN u190 ty188 rfl rfl (by omega))<|wV (run_loadN ty188 rfl rfl (hax.step hs.clear (by simp)))<|wE rfl (run_call en145 rfl rfl) (put_spec _ (hxo.step hs.clear (.inr (outside_nil _)))) ?_
    rintro e w ⟨v',Lv',rfl,hv',hq⟩
    refine⟨_,rfl,?_⟩
    refine wA<|wZ ?_
    have ob:=hv'.form
    obtain⟨va',vc',rfl⟩:=ob
    replace hs:=(hs.call0 hq).append_comm
    by_cases hf2:((l.take k).flatMap Wit.put).length+x.put.length≤4194304
    ·refine cq<|sr<|wm<|wV (run_lenSl u76 rfl)<|wm<|wV (run_lenSl u76 rfl)<|wV (run_add rfl rfl rfl (by omega))<|wV (run_bF (run_gtr rfl rfl) (by omega))<|wZ<|cF rfl<|ck<|cr<|wm<|wm ?_
     refine WL.append u76 u76 ty5 rfl (by decide) rfl rfl (hv) (hs) (hv'.sl hs.append_comm) (Cells1.u8s _) (by omega) rfl (fun v40 Lv40 w hv40 hs=>?_)
     refine wA<|wZ<|cr<|wm<|wV (run_add (c:=((k+1:Nat):Int)) rfl rfl (by omega) (by omega))<|wA<|wZ<|(show _∧_ from⟨rfl,_,?_,k+1,_,_,by omega,rfl,?_,?_,hs.dropR,rfl,rfl,rfl,trivial⟩)
     ·omega
     ·rw[hfm,List.length_append];exact hf2
     ·rw[hfm,List.length_append,u8s_append]
      exact hv40
    ·refine cq<|sr<|wm<|wV (run_lenSl u76 rfl)<|wm<|wV (run_lenSl u76 rfl)<|wV (run_add rfl rfl rfl (by omega))<|wV (run_bT (run_gtr rfl rfl) (by omega))<|wZ<|CW.cond rfl (fun h=>?_) (fun h=>?_)
     ·refine sr<|wA<|wA<|wZ<|CW.ret ?_
      refine fin_ret2 rfl ?_
      exact⟨rfl,hs.clear⟩
     ·cases h
   ·refine ck<|cq<|cB<|cq<|sr<|wm<|wm<|wV (run_ixSlN u190 ty188 rfl rfl (by omega))<|wF 0 u188 rfl ty3 rfl<|wl ty3 rfl (((hax.step hs.clear (by simp)).cell rfl))<|wV (run_bF (run_eql rfl rfl) (by exact h1))<|wm<|wz<|wz<|wz<|wz<|wz<|wz<|wV (run_pickF rfl)<|wZ ?_
    refine cF rfl<|ck<|sr<|wm<|wm<|wV (run_ixSlN u190 ty188 rfl rfl (by omega))<|wV (run_loadN ty188 rfl rfl (hax.step hs.clear (by simp)))<|wE rfl (run_call en145 rfl rfl) (put_spec _ (hxo.step hs.clear (.inr (outside_nil _)))) ?_
    rintro e w ⟨v',Lv',rfl,hv',hq⟩
    refine⟨_,rfl,?_⟩
    refine wA<|wZ ?_
    have ob:=hv'.form
    obtain⟨va',vc',rfl⟩:=ob
    replace hs:=(hs.call0 hq).append_comm
    by_cases hf2:((l.take k).flatMap Wit.put).length+x.put.length≤4194304
    ·refine cq<|sr<|wm<|wV (run_lenSl u76 rfl)<|wm<|wV (run_lenSl u76 rfl)<|wV (run_add rfl rfl rfl (by omega))<|wV (run_bF (run_gtr rfl rfl) (by omega))<|wZ<|cF rfl<|ck<|cr<|wm<|wm ?_
     refine WL.append u76 u76 ty5 rfl (by decide) rfl rfl (hv) (hs) (hv'.sl hs.append_comm) (Cells1.u8s _) (by omega) rfl (fun v40 Lv40 w hv40 hs=>?_)
     refine wA<|wZ<|cr<|wm<|wV (run_add (c:=((k+1:Nat):Int)) rfl rfl (by omega) (by omega))<|wA<|wZ<|(show _∧_ from⟨rfl,_,?_,k+1,_,_,by omega,rfl,?_,?_,hs.dropR,rfl,rfl,rfl,trivial⟩)
     ·omega
     ·rw[hfm,List.length_append];exact hf2
     ·rw[hfm,List.length_append,u8s_append]
      exact hv40
    ·refine cq<|sr<|wm<|wV (run_lenSl u76 rfl)<|wm<|wV (run_lenSl u76 rfl)<|wV (run_add rfl rfl rfl (by omega))<|wV (run_bT (run_gtr rfl rfl) (by omega))<|wZ<|CW.cond rfl (fun h=>?_) (fun h=>?_)
     ·refine sr<|wA<|wA<|wZ<|CW.ret ?_
      refine fin_ret2 rfl ?_
      exact⟨rfl,hs.clear⟩
     ·cases h
  ·obtain rfl:k=l.length:=by omega
   rw[List.take_length] at hfit
   omega
def pkI (k n:Nat) (B:List (Value×List UInt8)):List Wit:=[⟨1,5,.slice none 0 0,[]⟩,⟨1,k,.slice none 0 0,[]⟩,⟨1,n,.slice none 0 0,[]⟩]++B.map fun t=>⟨4,0,t.1,t.2⟩
theorem pkI_snoc (k n:Nat) (B:List (Value×List UInt8)) (t:Value×List UInt8):pkI k n (B++[t])=pkI k n B++[⟨4,0,t.1,t.2⟩]:=by simp[pkI]
theorem pkI_put (k:Nat) (B:List (Value×List UInt8)):(pkI k B.length B).flatMap Wit.put=packB k (B.map (·.2)):=by
 have h:∀B:List (Value×List UInt8),(B.map fun t=>(⟨4,0,t.1,t.2⟩:Wit)).flatMap Wit.put=(B.map (·.2)).flatMap fun x=>formB x.length++x:=by
  intro B
  induction B with
  | nil=>rfl
  | cons x B ih=>rw[List.map_cons,List.flatMap_cons,ih,List.map_cons,List.flatMap_cons];rfl
 rw[pkI,List.flatMap_append,h,packB,List.length_map]
 simp[Wit.put]
theorem pkI_ok{w:World}{k n:Nat}{B:List (Value×List UInt8)} (hk:k≤9223372036854775807) (hn:n≤9223372036854775807) (hB:∀t∈B,t.2.length≤70368744177664∧Sl w 1 t.1 t.2.length (u8s t.2)):∀x∈pkI k n B,x.ok w:=by
 intro x hx
 rcases List.mem_append.1 hx with hx | hx
 ·simp only[List.mem_cons,List.not_mem_nil,or_false] at hx
  rcases hx with rfl | rfl | rfl
  ·exact .inl ⟨rfl,by decide,rfl⟩
  ·exact .inl ⟨rfl,hk,rfl⟩
  ·exact .inl ⟨rfl,hn,rfl⟩
 ·have ob:=List.mem_map.1 hx
  obtain⟨t,ht,rfl⟩:=ob
  exact .inr ⟨.inl rfl,rfl,(hB t ht).1,(hB t ht).2⟩
def packE (b:List UInt8):List UInt8×Int:=if b.length≤4194304 then (b,0) else ([],2)
theorem pkI_len (k n:Nat) (B:List (Value×List UInt8)):(pkI k n B).length=B.length+3:=by simp[pkI]
theorem rowsI_snoc (l:List Wit) (x:Wit):rowsI (l++[x])=rowsI l++x.cells:=by simp[rowsI]
set_option maxHeartbeats 4000000 in
theorem packedR_spec{v:Value}{B:List (Value×List UInt8)}{k:Nat} (w0:World) (hv:Sl w0 1 v B.length (B.map (·.1))) (hB:∀t∈B,t.2.length≤67108864∧Sl w0 1 t.1 t.2.length (u8s t.2)) (hBl:B.length≤65536) (hk:k≤32) :
  Calls Tryz.prog 47 #[.int .i64 (k:Nat),v] w0 fun e w'=>∃u Lu,e=.returned (.tuple #[u,.int .i64 (packE (packB k (B.map (·.2)))).2])∧OwnSl 5 1 u (packE (packB k (B.map (·.2)))).1.length (u8s (packE (packB k (B.map (·.2)))).1) Lu∧Step [] Lu w0 w':=by
 have hs:Step [] [] w0 w0:=Step.refl w0
 have ob:=hv.form
 obtain⟨a,c,rfl⟩:=ob
 refine calls (n:=33) Tryz.func47 rfl rfl rfl ?_
 refine sr<|wA<|wA<|wZ<|sr<|wV (run_build rfl (bld_num _ _ _))<|wm<|wV (run_build rfl (bld_num _ _ _))<|wm<|wV (run_lenSl u24 rfl)<|wV (run_build rfl (bld_num _ _ _))<|WL.buildSlice (cs:=[.int .i64 1,.int .i64 5,.slice none 0 0,.int .i64 1,.int .i64 (k:Nat),.slice none 0 0,.int .i64 1,.int .i64 (B.length:Nat),.slice none 0 0]) u190 ty188 rfl (by decide) rfl (filled3 _ _ _ _ _ _ _ _ _ _ _ _) rfl hs (fun b14 w hs=>?_)
 refine wA<|wZ<|cq<|sr<|wA<|wZ ?_
 have hv0:OwnSl 188 3 (.slice (some ⟨b14,0,none⟩) 3 3) (pkI k B.length (B.take 0)).length (rowsI (pkI k B.length (B.take 0))) [(b14,blk 188 (rowsI (pkI k B.length [])))]:=OwnSl.mk (b:=b14) (xs:=rowsI (pkI k B.length [])) (k:=3) rfl
 refine cB<|CW.loop (fun z f w'=>∃i vI LI,i≤B.length∧z=B.length - i∧OwnSl 188 3 vI (pkI k B.length (B.take i)).length (rowsI (pkI k B.length (B.take i))) LI∧Step [] LI w0 w'∧Holds f [(1,.slice a B.length c),(6,vI),(7,.int .i64 (i:Nat))]) (m:=B.length) ?_ ?_
 ·exact⟨0,_,_,Nat.zero_le _,rfl,hv0,hs,rfl,rfl,rfl,trivial⟩
 clear hs hv0
 rintro z f w ⟨i,vI,LI,hi,rfl,hvI,hs,hf⟩
 have ob:=hf.chain
 obtain⟨g,rfl⟩:=ob
 have hpl:=pkI_len k B.length (B.take i)
 rw[List.length_take] at hpl
 by_cases hlt:i<B.length
 ·have ob:∃t,B[i]?=some t:=⟨_,List.getElem?_eq_getElem hlt⟩
  obtain⟨t,ht⟩:=ob
  have ob:=sl_at1 (c:=fun t:Value×List UInt8=>t.1) hv ht
  obtain⟨bb,bo,bc,hbe,hbc⟩:=ob
  cases hbe
  have ob:=hB t (List.mem_of_getElem? ht)
  obtain⟨htl,hts⟩:=ob
  have ob:=hts.form
  obtain⟨ta,tc,hte⟩:=ob
  have htk:B.take (i+1)=B.take i++[t]:=by rw[List.take_add_one,ht];rfl
  refine cq<|sr<|wm<|wm<|wV (run_lenSl u24 rfl)<|wV (run_bT (run_lss rfl rfl) (by omega))<|wZ<|CW.cond rfl (fun h=>?_) (fun h=>?_)
  ·refine ck<|cq<|cB<|cr<|wm<|wm<|wm<|wV (run_ixSlN u24 ty76 rfl rfl (by omega))<|wl ty76 rfl (((keepCell hbc hs.clear).trans (congrArg some hte)))<|wV (run_build rfl (bld_bytes _ _ _ _ _))<|WL.buildSlice (cs:=[.int .i64 4,.int .i64 0,.slice ta t.2.length tc]) u190 ty188 rfl (by decide) rfl (filled1 rfl rfl) rfl hs (fun b27 w hs=>?_)
   have hsl27:Sl w 3 (.slice (some ⟨b27,0,none⟩) 1 1) 1 [.int .i64 4,.int .i64 0,.slice ta t.2.length tc]:=.own1 hs rfl
   replace hs:=Step.rot1 hs
   refine WL.append u190 u190 ty188 rfl (by decide) rfl rfl (hvI) (hs) (hsl27) (Cells1.of_all rfl) (by omega) rfl (fun v28 Lv28 w hv28 hs=>?_)
   replace hs:=Step.dropR hs
   refine wA<|wZ<|cr<|wm<|wV (run_add (c:=((i+1:Nat):Int)) rfl rfl (by omega) (by omega))<|wA<|wZ<|(show _∧_ from⟨rfl,_,?_,i+1,v28,Lv28,hlt,rfl,?_,hs,rfl,rfl,rfl,trivial⟩)
   ·omega
   ·rw[htk,pkI_snoc,List.length_append,rowsI_snoc]
    show OwnSl _ _ _ _ (_++[.int .i64 4,.int .i64 (0:Nat),t.1]) _
    rw[hte];exact hv28
  ·cases h
 ·obtain rfl:i=B.length:=by omega
  rw[List.take_length] at hvI hpl
  refine cq<|sr<|wm<|wm<|wV (run_lenSl u24 rfl)<|wV (run_bF (run_lss rfl rfl) (by omega))<|wZ<|CW.cond rfl (fun h=>?_) (fun h=>?_)
  ·cases h
  have hput:=pkI_put k B
  have hok:=pkI_ok (w:=w) (k:=k) (n:=B.length) (B:=B) (by omega) (by omega) fun t ht=>⟨by have:=(hB t ht).1;omega,(hB t ht).2.step0 hs⟩
  have hsl:=hvI.sl (L:=[]) (by rw[List.append_nil];exact hs)
  by_cases hfit:(packB k (B.map (·.2))).length≤4194304
  ·have he:packE (packB k (B.map (·.2)))=(packB k (B.map (·.2)),0):=if_pos hfit
   rw[he]
   have hdn:=doneR_spec w hsl hok (by rw[hput];exact hfit) (by omega)
   rw[hput] at hdn
   refine CW.exit<|sr<|wm<|wE rfl (run_call en101 rfl rfl) (hdn) ?_
   rintro e w ⟨u,Lu,rfl,hu,hq⟩
   refine⟨_,rfl,?_⟩
   replace hs:=Step.call0 hs hq
   refine wx rfl rfl<|wx rfl rfl<|wA<|wA<|wZ<|CW.ret ?_
   refine fin_ret2 rfl ?_
   exact⟨u,Lu,rfl,hu,Step.dropR (L1:=Lu) hs⟩
  ·have he:packE (packB k (B.map (·.2)))=([],2):=if_neg hfit
   rw[he]
   have hdn:=doneR_long w hsl hok (by rw[hput];omega) (by omega) (fun x hx=>by
    rcases List.mem_append.1 hx with hx | hx
    ·simp only[List.mem_cons,List.not_mem_nil,or_false] at hx
     have h5:=formB_len 5
     have hkl:=formB_len k
     have hnl:=formB_len B.length
     rcases hx with rfl | rfl | rfl
     ·show(formB 5).length≤_;omega
     ·show(formB k).length≤_;omega
     ·show(formB B.length).length≤_;omega
    ·have ob:=List.mem_map.1 hx
     obtain⟨t,ht,rfl⟩:=ob
     have h1:=formB_len t.2.length
     have h2:=(hB t ht).1
     show(formB t.2.length++t.2).length≤_
     rw[List.length_append];omega)
   refine CW.exit<|sr<|wm<|wE rfl (run_call en101 rfl rfl) (hdn) ?_
   rintro e w ⟨rfl,hq⟩
   refine⟨_,rfl,?_⟩
   replace hs:=hs.callE hq
   refine wx rfl rfl<|wx rfl rfl<|wA<|wA<|wZ<|CW.ret ?_
   refine fin_ret2 rfl ?_
   exact⟨_,[],rfl,OwnSl.nil _ _,hs.clear⟩
end Go.Gx
namespace Go.Gx
open Go.Proofs
attribute [local irreducible] shaL cutD frontL
theorem packR_ok{s:AS}{r:Int×WS}{of:List (List UInt8)} (h:r.1=0):packR s r of=packE (packB s.k (of.map fun d=>(s.get d).1)):=by rw[packR,if_neg (fun hh=>hh h)];rfl
theorem Step.k5{S:List Nat}{A B C E X:List (Nat×Obj)}{w w':World} (h:Step S (A++(B++(C++(E++X)))) w w'):Step S (A++X) w w':=Step.dropL (L1:=B++(C++E)) (h.perm (by classical exact List.perm_iff_count.2 fun x=>by simp only[List.count_append];omega))
theorem Step.k6{S:List Nat}{A B C X:List (Nat×Obj)}{w w':World} (h:Step S (A++(B++(C++X))) w w'):Step S (B++((A++C)++X)) w w':=h.perm (by classical exact List.perm_iff_count.2 fun x=>by simp only[List.count_append];omega)
section
variable{br:Nat}{s:AS}{D R:List (Nat×Obj)}{d:List UInt8}{w0:World}{rn rd rb:Int}{N k:Nat}{gf of:List (List UInt8)}
set_option maxHeartbeats 8000000 in
theorem packDR_spec (hR:RRep br s D R) (ok:s.Ok) (hfew:s.Few N) (hN:N<1000000000) (hd:d.length=32) (hrm:(rmOf rn rd rb).Ok) (hG:(runs s (rmOf rn rd rb) [rootS d] ws0).1=0→Goes (partsM s (runs s (rmOf rn rd rb) [rootS d] ws0).2.m) [d] [] [] gf of k) (hw:Lives (R++D) w0) :
  Calls Tryz.prog 39 #[.pointer (some ⟨br,0,none⟩),.agg (u8s d).toArray,.agg #[.int .i64 rn,.int .i64 rd,.int .i64 rb]] w0 fun e w'=>∃v Lv R' D',e=.returned (.tuple #[v,.int .i64 (packR s (runs s (rmOf rn rd rb) [rootS d] ws0) of).2])∧
   RRep br (s.gotN (runs s (rmOf rn rd rb) [rootS d] ws0).2.g) (D'++D) R'∧OwnSl 5 1 v (packR s (runs s (rmOf rn rd rb) [rootS d] ws0) of).1.length (u8s (packR s (runs s (rmOf rn rd rb) [rootS d] ws0) of).1) Lv∧Step (R.map (·.1)) (R'++(Lv++D')) w0 w':=by
 have hw9:=fun{w1:World} h=>walkR_spec (w0:=w1) hR ok hfew hN hd hrm h
 have hmet:=fun{t:WS} h=>runs_met (s:=s) (rm:=rmOf rn rd rb) (t:=t) hd h
 have hgd:=standP_good (s:=s) (rm:=rmOf rn rd rb) hrm 34 (x:=rootS d) (t:=ws0) (ws0_good.mono (by omega))
 have hM32:=root_M32 (s:=s) (rm:=rmOf rn rd rb) hd
 rw[←runs_root] at hgd hM32
 have ob:∃r,runs s (rmOf rn rd rb) [rootS d] ws0=r:=⟨_,rfl⟩
 obtain⟨r,hr⟩:=ob
 rw[hr] at hw9 hG hgd hM32⊢
 have hdl:(u8s d).length=32:=by rw[u8s,List.length_map,hd]
 have hs:Step (List.map (·.1) (R++D)) (R++D) w0 w0:=hw
 by_cases he:r.1≠0
 ·have hre:packR s r of=([],r.1):=if_pos he
  rw[hre]
  rw[if_neg he] at hw9
  refine calls (n:=55) Tryz.func39 rfl rfl rfl ?_
  refine sr<|WL.box (cs:=u8s d) rfl rfl rfl hs (fun b4 w hs=>?_)
  refine WL.box (cs:=[.int .i64 rn,.int .i64 rd,.int .i64 rb]) rfl rfl rfl hs (fun b5 w hs=>?_)
  refine wA<|wA<|wZ<|sr<|wm<|wV (run_loadN ty44 rfl hdl hs.a1)<|wV (run_loadN ty30 rfl rfl hs.a0)<|wE rfl (run_call en65 rfl rfl) (hw9 (Lives.mk hs.tail.tail)) ?_
  rintro e w ⟨v,Lv,R1,D1,rfl,hR1,hvm,hq⟩
  refine⟨_,rfl,?_⟩
  replace hs:=Own.put (A:=[_,_]) (L:=R) hs hq
  refine wm<|wx rfl rfl<|wx rfl rfl<|wA<|wA<|wZ ?_
  replace hs:=hs.tail.tail
  refine cq<|sr<|wm<|wV (run_bT (run_neq rfl rfl) (by exact he))<|wZ<|CW.cond rfl (fun h=>?_) (fun h=>?_)
  ·refine sr<|wm<|wA<|wA<|wZ<|CW.ret ?_
   refine fin_ret2 rfl ?_
   exact⟨_,[],R1,Lv++D1,rfl,by rw[List.append_assoc];exact hR1.mono mem_right,OwnSl.nil _ _,Step.fin (M:=[]) hw hs⟩
  ·cases h
 have he0:r.1=0:=by simpa using he
 have hmet:=hmet (t:=r.2) (by rw[hr,←he0])
 have hgd:=hgd he0
 have hM32:=hM32 he0
 have hml:r.2.m.length≤65536:=Nat.le_trans hgd.m hgd.n
 have ob:=hmet.of_le (hG he0)
 obtain⟨hol,hofU⟩:=ob
 rw[packR_ok he0]
 rw[if_pos he0] at hw9
 refine calls (n:=55) Tryz.func39 rfl rfl rfl ?_
 refine sr<|WL.box (cs:=u8s d) rfl rfl rfl hs (fun b4 w hs=>?_)
 refine WL.box (cs:=[.int .i64 rn,.int .i64 rd,.int .i64 rb]) rfl rfl rfl hs (fun b5 w hs=>?_)
 refine wA<|wA<|wZ<|sr<|wm<|wV (run_loadN ty44 rfl hdl hs.a1)<|wV (run_loadN ty30 rfl rfl hs.a0)<|wE rfl (run_call en65 rfl rfl) (hw9 (Lives.mk hs.tail.tail)) ?_
 rintro e w ⟨v,Lv,R1,D1,rfl,hR1,hvm,hq⟩
 refine⟨_,rfl,?_⟩
 replace hs:=Own.put (A:=[_,_]) (L:=R) hs hq
 refine wm<|wx rfl rfl<|wx rfl rfl<|wA<|wA<|wZ ?_
 replace hs:=hs.tail.tail
 refine cq<|sr<|wm<|wV (run_bF (run_neq rfl rfl) (by exact he))<|wZ<|CW.cond rfl (fun h=>?_) (fun h=>?_)
 ·cases h
 rw[List.append_assoc] at hs
 have hR2:RRep br (s.gotN r.2.g) (Lv++(D1++D)) R1:=hR1.mono mem_right
 refine ck<|sr<|wm<|wm<|wE rfl (run_call en71 rfl rfl) (behindR_spec hR2 (ok.gotN _) (⟨hmet.head,hmet.got,hmet.len,hmet.sub⟩:Met (s.gotN r.2.g) d r.2.m) hvm (fun p hp=>List.mem_append_left _ hp) hml hM32 (partsM_len _ _) (hG he0) (Lives.mk hs)) ?_
 rintro e w ⟨vo,Lo,rfl,hvo,hq⟩
 refine⟨_,rfl,?_⟩
 replace hs:=Step.call0 hs hq
 refine wA<|wZ ?_
 have ob:=hvo.form
 obtain⟨oa,oc,rfl⟩:=ob
 refine sr<|wA<|wZ<|cq<|sr<|wA<|wZ<|cB<|CW.loop (fun z f w'=>∃(i:Nat) (vB:Value) (LvB:List (Nat×Obj)) (B:List (Value×List UInt8)) (LB:List (Nat×Obj)),i≤of.length∧z=of.length - i∧B.map (·.2)=(of.take i).map (fun d=>(s.get d).1)∧(∀t∈B,Held LB t.1 t.2)∧OwnSl 76 1 vB B.length (B.map (·.1)) LvB∧Step (List.map (·.1) (R++D)) (LvB++(LB++(Lo++(R1++(Lv++(D1++D)))))) w0 w'∧Holds f [(0,.pointer (some ⟨br,0,none⟩)),(10,.slice oa of.length oc),(11,vB),(12,.int .i64 (i:Nat))]) (m:=of.length) ?_ ?_
 ·exact⟨0,.slice none 0 0,[],([]:List (Value×List UInt8)),[],Nat.zero_le _,rfl,rfl,(fun t ht=>by cases ht),OwnSl.nil _ _,hs,rfl,rfl,rfl,rfl,trivial⟩
 clear hs
 rintro z f w ⟨i,vB,LvB,B,LB,hil,rfl,hB2,hBH,hvB,hs,hf⟩
 have ob:=hf.chain
 obtain⟨g,rfl⟩:=ob
 have hBl:B.length=i:=by rw[←List.length_map (f:=(·.2)),hB2,List.length_map,List.length_take];omega
 by_cases hlt:i<of.length
 ·have ob:∃x,of[i]?=some x:=⟨_,List.getElem?_eq_getElem hlt⟩
  obtain⟨x,hx⟩:=ob
  have hxU:=hofU x (List.mem_of_getElem? hx)
  have hx32:=hmet.len x hxU
  have hxl:(u8s x).length=32:=by rw[u8s,List.length_map,hx32]
  have hgx:=get_len ok x
  have hg0:(s.get x).2=0:=by
   rw[ordM_mem] at hxU
   have ob:=List.mem_map.1 hxU
   obtain⟨p,hp,rfl⟩:=ob
   exact hmet.got p hp
  have hraw:(s.gotN r.2.g).raw x=(s.get x).1:=get_raw hg0
  have ob:=hvo.some1 (by omega)
  obtain⟨bu,cu,more,hu1,hu2,hu3⟩:=ob
  cases hu1
  subst hu2
  have hxat:At w bu (0+i*32) (u8s x):=digsL_at (fun y hy=>hmet.len y (hofU y hy)) (At.of_blk (hs.has (bu,blk 44 (digsL of++more)) (by simp))).left hx
  have hrw:=fun{w1:World} h=>rraw_abs (w0:=w1) hR2 (ok.gotN _) h hx32
  rw[hraw] at hrw
  have htk:of.take (i+1)=of.take i++[x]:=by rw[List.take_add_one,hx];rfl
  refine cq<|sr<|wm<|wm<|wV (run_lenSl u35 rfl)<|wV (run_bT (run_lss rfl rfl) (by omega))<|wZ<|CW.cond rfl (fun h=>?_) (fun h=>?_)
  ·refine ck<|cq<|cB<|sr<|wm<|wm<|wm<|wV (run_ixSlN u35 ty44 rfl rfl (by omega))<|wV (run_loadN ty44 rfl hxl hxat)<|wE rfl (run_call en72 rfl rfl) (hrw (Lives.mk (Step.dropL (L1:=[_]) (Step.dropL (L1:=LB) (Step.dropL (L1:=LvB) hs))))) ?_
   rintro e w ⟨vb,Lb,rfl,hvb,hq⟩
   refine⟨_,rfl,?_⟩
   replace hs:=Step.call0 hs hq
   refine wm<|wx rfl rfl<|wx rfl rfl<|wA<|wA<|wZ ?_
   have ob:=hvb.form
   obtain⟨ra,rc,rfl⟩:=ob
   replace hs:=Step.k6 hs
   refine cr<|wm<|wm<|WL.buildSlice (cs:=[.slice ra (s.get x).1.length rc]) u24 ty76 rfl (by decide) rfl (filled1 rfl rfl) rfl hs (fun b45 w hs=>?_)
   have hsl45:Sl w 1 (.slice (some ⟨b45,0,none⟩) 1 1) 1 [.slice ra (s.get x).1.length rc]:=.own1 hs rfl
   replace hs:=Step.pIn hs
   refine WL.append u24 u24 ty76 rfl (by decide) rfl rfl (hvB) (hs) (hsl45) (Cells1.of_all rfl) (by omega) rfl (fun v46 Lv46 w hv46 hs=>?_)
   replace hs:=Step.pOut hs
   refine wA<|wZ<|cr<|wm<|wV (run_add (c:=((i+1:Nat):Int)) rfl rfl (by omega) (by omega))<|wA<|wZ<|(show _∧_ from⟨rfl,_,?_,i+1,v46,Lv46,B++[(.slice ra (s.get x).1.length rc,(s.get x).1)],Lb++LB,hlt,rfl,?_,?_,?_,hs,rfl,rfl,rfl,rfl,trivial⟩)
   ·omega
   ·rw[List.map_append,hB2,htk,List.map_append];rfl
   ·intro t ht
    rcases List.mem_append.1 ht with ht | ht
    ·exact(hBH t ht).mono fun p hp=>List.mem_append_right _ hp
    ·obtain rfl:=List.mem_singleton.1 ht
     exact⟨Lb,hvb,fun p hp=>List.mem_append_left _ hp⟩
   ·rw[List.length_append,List.map_append];exact hv46
  ·cases h
 ·obtain rfl:i=of.length:=by omega
  rw[List.take_length] at hB2
  have ob:=hR2.look ok.len
  obtain⟨ra,rc,_,hlk⟩:=ob
  have hpk:=packedR_spec (v:=vB) (B:=B) (k:=s.k) w (hvB.sl hs) (fun t ht=>by
   have ob:=hBH t ht
   obtain⟨Lt,h1,h2⟩:=ob
   refine⟨?_,h1.slH fun p hp=>hs.has p (by simp[h2 p hp])⟩
   have h3:=List.mem_map_of_mem (f:=(·.2)) ht
   rw[hB2] at h3
   have ob:=List.mem_map.1 h3
   obtain⟨y,_,hy⟩:=ob
   have h4:=get_len ok y
   rw[hy] at h4
   exact Nat.le_trans h4 (by decide)) (by omega) ok.k2
  rw[hB2] at hpk
  have ob:∃q,packE (packB s.k (of.map fun d=>(s.get d).1))=q:=⟨_,rfl⟩
  obtain⟨q,hqe⟩:=ob
  rw[hqe] at hpk⊢
  rw[hBl] at hvB
  have ob:=hvB.form
  obtain⟨va,vc,rfl⟩:=ob
  refine cq<|sr<|wm<|wm<|wV (run_lenSl u35 rfl)<|wV (run_bF (run_lss rfl rfl) (by omega))<|wZ<|CW.cond rfl (fun h=>?_) (fun h=>?_)
  ·cases h
  refine CW.exit<|sr<|wm<|wn rfl<|wF 0 u54 rfl ty3 rfl<|wl ty3 rfl ((hlk (fun p hp=>hs.has p (by simp[hp]))).1.cell (j:=0) rfl)<|wm<|wE rfl (run_call en47 rfl rfl) (hpk) ?_
  rintro e w ⟨u,Lu,rfl,hu,hq⟩
  refine⟨_,rfl,?_⟩
  replace hs:=Step.call0 hs hq
  refine wx rfl rfl<|wx rfl rfl<|wA<|wA<|wZ<|CW.ret ?_
  refine fin_ret2 rfl ?_
  exact⟨u,Lu,R1,Lv++D1,rfl,by rw[List.append_assoc];exact hR2,hu,Step.fin (M:=Lu) hw (by rw[List.append_assoc];exact Step.k5 hs)⟩
end
end Go.Gx
namespace Go.Gx
open Go.Proofs Go.RowKit
attribute [local irreducible] shaL cutD frontL
section
variable{wd cp z rn rd rb:Int}{x:Stup}
set_option maxHeartbeats 16000000 in
theorem flowPacks_spec (w0:World) (hx:x.Ok w0) (hz : -9223372036854775808≤z∧z≤9223372036854775807) (hn : -9223372036854775808≤rn∧rn≤9223372036854775807) (hd : -9223372036854775808≤rd∧rd≤9223372036854775807) (hb : -9223372036854775808≤rb∧rb≤9223372036854775807) :
  Calls Tryz.prog 9 #[.int .i64 wd,.agg x.cells.toArray,.int .i64 z,.agg #[.int .i64 rn,.int .i64 rd,.int .i64 rb]] w0 (Ret0 (.bool true) w0):=by
 have hs:Step [] [] w0 w0:=Step.refl w0
 have hcl:x.cells.length=6:=rfl
 have hrm:=rmOf_ok hn hd hb
 by_cases hbad:(wd<1∨32<wd)∨¬(0≤x.cap∧x.cap≤67108864)
 ·refine calls (n:=90) Tryz.func9 rfl rfl rfl ?_
  refine sr<|WL.box (cs:=x.cells) rfl rfl rfl hs (fun b5 w hs=>?_)
  refine WL.box (cs:=[.int .i64 rn,.int .i64 rd,.int .i64 rb]) rfl rfl rfl hs (fun b7 w hs=>?_)
  refine wA<|wZ<|cq<|sr<|wE rfl (run_call en15 rfl rfl) (known8_spec _) ?_
  rintro e w ⟨rfl,hq⟩
  refine⟨_,rfl,?_⟩
  replace hs:=hs.callE hq
  refine wV (run_not rfl)<|wZ<|CW.cond rfl (fun h=>?_) (fun h=>?_)
  ·cases h
  refine ck<|sr<|wm<|wV (run_loadN ty28 rfl hcl hs.a1)<|wE rfl (run_call en16 rfl rfl) (made8_bad hbad rfl _) ?_
  rintro e w ⟨rfl,hq⟩
  refine⟨_,rfl,?_⟩
  replace hs:=hs.callE hq
  refine wm<|wx rfl rfl<|wx rfl rfl<|wA<|wA<|wZ<|cq<|sr<|wm<|wV (run_not rfl)<|wm<|wy<|wm ?_
  refine wy<|wV (run_nilNil u32 rfl rfl)<|wV (run_pickF rfl)<|wZ<|CW.cond rfl (fun h=>?_) (fun h=>?_)
  ·refine sr<|wm<|wA<|wZ<|CW.ret ?_
   refine fin_ret1 rfl ?_
   exact⟨rfl,hs.clear⟩
  ·cases h
 have ob:∃k:Nat,wd=k:=⟨wd.toNat,by omega⟩
 obtain⟨k,rfl⟩:=ob
 have ob:∃c:Nat,x.cap=c:=⟨x.cap.toNat,by omega⟩
 obtain⟨c,hc⟩:=ob
 refine calls (n:=90) Tryz.func9 rfl rfl rfl ?_
 refine sr<|WL.box (cs:=x.cells) rfl rfl rfl hs (fun b5 w hs=>?_)
 refine WL.box (cs:=[.int .i64 rn,.int .i64 rd,.int .i64 rb]) rfl rfl rfl hs (fun b7 w hs=>?_)
 refine wA<|wZ<|cq<|sr<|wE rfl (run_call en15 rfl rfl) (known8_spec _) ?_
 rintro e w ⟨rfl,hq⟩
 refine⟨_,rfl,?_⟩
 replace hs:=hs.callE hq
 refine wV (run_not rfl)<|wZ<|CW.cond rfl (fun h=>?_) (fun h=>?_)
 ·cases h
 refine ck<|sr<|wm<|wV (run_loadN ty28 rfl hcl hs.a1)<|wE rfl (run_call en16 rfl rfl) (made8_spec (by omega) (by omega) (by omega) hc _ (hx.step0 hs.clear)) ?_
 rintro e w ⟨bw,bp,br,rfl,s,roots,vR,LR,L,R,D,hM,few,hsk,hrl⟩
 refine⟨_,rfl,?_⟩
 have hs2:=Step.call0 hs hM.hs
 replace hs:=Step.perm hs2 perm_w1
 refine wm<|wx rfl rfl<|wx rfl rfl<|wA<|wA<|wZ ?_
 have ok:=hM.ok
 have ob:∃d,rootF roots s.X z=d:=⟨_,rfl⟩
 obtain⟨d,hdE⟩:=ob
 have hd32:=rootF_len (z:=z) hM.r32 ok.len
 rw[hdE] at hd32
 have ob:∃r,runs s (rmOf rn rd rb) [rootS d] ws0=r:=⟨_,rfl⟩
 obtain⟨r,hr⟩:=ob
 have hrg:=runs_g (s:=s) hrm d
 have hmet:=fun{t:WS} h=>runs_met (s:=s) (rm:=rmOf rn rd rb) (t:=t) hd32 h
 rw[hr] at hrg hmet
 obtain⟨gf,of,kk,hG⟩:∃gf of kk,r.1=0→Goes (partsM s r.2.m) [d] [] [] gf of kk:=by
  by_cases he:r.1=0
  ·have ob:=(hmet (t:=r.2) (by rw[←he])).goes
   obtain⟨a,b,c,h⟩:=ob
   exact⟨a,b,c,fun _=>h⟩
  ·exact⟨[],[],0,fun h=>absurd h he⟩
 have hroot:∀{w:World}{L1 D1:List (Nat×Obj)},Step [] (((b7,blk 30 [.int .i64 rn,.int .i64 rd,.int .i64 rb])::(b5,blk 28 x.cells)::(bw,blk 42 (w8C bp br vR))::LR)++(L1++(R++D1))) w0 w→Calls Tryz.prog 18 #[.pointer (some ⟨bw,0,none⟩),.int .i64 z] w (Ret0 (.agg (u8s d).toArray) w):=fun {w L1 D1} h=>by
  have h2:=root8_spec (z:=z) (w:=w) (bw:=bw) (bp:=bp) (br:=br) (vR:=vR) (roots:=roots) (At.of_blk (h.has (bw,blk 42 (w8C bp br vR)) (by simp))) (Dgs.own hM.vr (fun p hp=>h.has p (mem_w2 hp)) hM.r32 (by omega)) hM.rr (fun p hp=>h.has p (mem_w1 hp)) ok (by omega) hz
  rw[hdE] at h2;exact h2
 have hre:=fun{w:World} h=>pack_spec (w0:=w) hM.pr ok few (by omega) hd32 hrm (by rw[hr];exact hG) h
 have hrr:=fun{w:World}{D1:List (Nat×Obj)} h=>packDR_spec (w0:=w) (hM.rr.mono (D':=D1++D) mem_right) ok few (by omega) hd32 hrm (by rw[hr];exact hG) h
 simp only[hr] at hre hrr
 have ob:∃pk,packR s r of=pk:=⟨_,rfl⟩
 obtain⟨pk,hpk⟩:=ob
 simp only[hpk] at hre hrr
 refine cq<|sr<|wm<|wV (run_not rfl)<|wm<|wy<|wm<|wy<|wV (run_ptrNil u32 rfl rfl)<|wV (run_pickF rfl)<|wZ<|CW.cond rfl (fun h=>?_) (fun h=>?_)
 ·cases h
 refine ck<|cq<|CW.any (A:=fun w=>Step [] [(b7,blk 30 [.int .i64 rn,.int .i64 rd,.int .i64 rb]),(b5,blk 28 x.cells),(bw,blk 42 (w8C bp br vR))] w0 w) (C:=fun w=>Step [] [(b7,blk 30 [.int .i64 rn,.int .i64 rd,.int .i64 rb]),(b5,blk 28 x.cells),(bw,blk 42 (w8C bp br vR))] w0 w) 1000000 14 mixedP rfl ?_
 replace hs:=hs.drew
 refine aM 0 rfl<|aV 1 rfl (fun w hs=>run_nilCheck rfl)<|aV 2 rfl (fun w hs=>run_field (o':=0) u42 rfl ty39 rfl rfl rfl)<|aV 3 rfl (fun w hs=>run_load1 ty39 rfl (hs.c2 rfl))<|aM 4 rfl<|aM 5 rfl<|aV 7 rfl (fun w hs=>run_loadN ty30 rfl rfl hs.a0)<|AL.one 6 (by kernel_rfl) rfl (Step.dropR (L1:=[_,_,_]) hs) (Step.dropR (L1:=[_,_,_]) hs) ?_
 refine wE rfl (run_call en18 rfl rfl) (hroot hs) ?_
 rintro e w ⟨rfl,hq⟩
 refine⟨_,rfl,?_⟩
 replace hs:=hs.callE hq
 refine wZ<|⟨rfl,?_⟩
 refine AL.one 8 (by kernel_rfl) rfl (Step.dropR (L1:=[_,_,_]) hs) (Step.dropR (L1:=[_,_,_]) hs) ?_
 refine wE rfl (run_call en33 rfl rfl) (hre (Two.live (A:=_::_::_::LR) hs)) ?_
 rintro e w ⟨v,Lv,L1,D1,rfl,hP1,hv,hq1⟩
 refine⟨_,rfl,?_⟩
 replace hs:=Two.put (A:=_::_::_::LR) hs hq1
 refine wZ<|⟨rfl,?_⟩
 refine aM 9 rfl<|aV 10 rfl (fun w hs=>run_extract rfl rfl)<|aV 11 rfl (fun w hs=>run_extract rfl rfl)<|aV 12 rfl (fun w hs=>run_assign)<|aV 13 rfl (fun w hs=>run_assign)<|AL.end (by kernel_rfl) (Step.dropR (L1:=[_,_,_]) hs) (Step.dropR (L1:=[_,_,_]) hs) ?_
 refine cq<|CW.any (A:=fun w=>Step [] [(b7,blk 30 [.int .i64 rn,.int .i64 rd,.int .i64 rb]),(b5,blk 28 x.cells),(bw,blk 42 (w8C bp br vR))] w0 w) (C:=fun w=>Step [] [(b7,blk 30 [.int .i64 rn,.int .i64 rd,.int .i64 rb]),(b5,blk 28 x.cells),(bw,blk 42 (w8C bp br vR))] w0 w) 1000000 14 mixedP rfl ?_
 replace hs:=hs.drew
 refine aM 0 rfl<|aV 1 rfl (fun w hs=>run_nilCheck rfl)<|aV 2 rfl (fun w hs=>run_field (o':=1) u42 rfl ty40 rfl rfl rfl)<|aV 3 rfl (fun w hs=>run_load1 ty40 rfl (hs.c2 rfl))<|aM 4 rfl<|aM 5 rfl<|aV 7 rfl (fun w hs=>run_loadN ty30 rfl rfl hs.a0)<|AL.one 6 (by kernel_rfl) rfl (Step.dropR (L1:=[_,_,_]) hs) (Step.dropR (L1:=[_,_,_]) hs) ?_
 refine wE rfl (run_call en18 rfl rfl) (hroot hs) ?_
 rintro e w ⟨rfl,hq2⟩
 refine⟨_,rfl,?_⟩
 replace hs:=hs.callE hq2
 refine wZ<|⟨rfl,?_⟩
 refine AL.one 8 (by kernel_rfl) rfl (Step.dropR (L1:=[_,_,_]) hs) (Step.dropR (L1:=[_,_,_]) hs) ?_
 refine wE rfl (run_call en39 rfl rfl) (hrr (Two.rlive (A:=_::_::_::LR) hs)) ?_
 rintro e w ⟨v2,Lv2,R1,D2,rfl,hR1,hv2,hq3⟩
 refine⟨_,rfl,?_⟩
 replace hs:=Two.rput (A:=_::_::_::LR) hs hq3
 refine wZ<|⟨rfl,?_⟩
 refine aM 9 rfl<|aV 10 rfl (fun w hs=>run_extract rfl rfl)<|aV 11 rfl (fun w hs=>run_extract rfl rfl)<|aV 12 rfl (fun w hs=>run_assign)<|aV 13 rfl (fun w hs=>run_assign)<|AL.end (by kernel_rfl) (Step.dropR (L1:=[_,_,_]) hs) (Step.dropR (L1:=[_,_,_]) hs) ?_
 have hP2:PRep bp (s.gotN r.2.g) ((Lv2++D2)++((Lv++D1)++D)) L1:=(hP1.mono fun p hp=>by rcases List.mem_append.1 hp with hp | hp <;> simp[hp])
 have hR2:RRep br (s.gotN r.2.g) ((Lv2++D2)++((Lv++D1)++D)) R1:=hR1.mono fun p hp=>(List.mem_append.1 hp).elim (fun hp=>List.mem_append_left _ (List.mem_append_right _ hp)) (fun hp=>List.mem_append_right _ hp)
 have okg:=ok.gotN r.2.g
 have hal:=fun{w:World} h1 h2=>alike8_spec (w0:=w) hP2 hR2 okg h1 h2
 have hct:=fun{w:World} h1=>counts_abs (w0:=w) hP2 okg h1
 have hgf:=(few.gotN r.2.g)
 have hgg:=hgf.gets
 have hgp:=hgf.puts
 have ob:=hR2.look okg.len
 obtain⟨ra,rc,_,hlk⟩:=ob
 refine cq<|CW.quiet mixedP (by kernel_rfl) hs ?_
 refine qm<|qm<|qV (fun w hs=>run_bT (run_eql rfl rfl) (by rfl))<|qm<|qy<|qm<|qy<|qV (fun w hs=>run_toString u76 u9 u5 rfl (hv.slH (fun p hp=>hs.has p (by simp[hp]))))<|qy<|qm<|qy<|qV (fun w hs=>run_toString u76 u9 u5 rfl (hv2.slH (fun p hp=>hs.has p (by simp[hp]))))<|qy<|qV (fun w hs=>run_bT (run_strEq rfl rfl) (by rfl)) ?_
 refine qV (fun w hs=>run_pickT rfl)<|qm<|qy<|qm<|qy<|qn rfl<|qy<|qF 0 u42 rfl ty39 rfl<|qy<|qV (fun w hs=>run_load1 ty39 rfl (hs.c2 rfl))<|qy<|QL.enter rfl (fun w=>run_call en21 rfl rfl) (fun w hs=>hct (Two.live (A:=_::_::_::LR) hs)) ?_
 refine qy<|qm<|qy<|qn rfl<|qy<|qF 1 u42 rfl ty40 rfl<|qy<|qV (fun w hs=>run_load1 ty40 rfl (hs.c2 rfl))<|qy<|qn rfl<|qy<|qF 4 u54 rfl ty50 rfl<|qy<|qV (fun w hs=>run_loadN ty50 rfl rfl ((hlk (fun p hp=>hs.has p (mem_w1 hp))).1.drop 4)) ?_
 refine qy<|qV (fun w hs=>run_eqCnt (by omega) (by omega) rfl rfl)<|qV (fun w hs=>run_pickT rfl)<|qm<|qy<|qm<|qy<|qn rfl<|qy<|qF 0 u42 rfl ty39 rfl<|qy<|qV (fun w hs=>run_load1 ty39 rfl (hs.c2 rfl))<|qy<|qm ?_
 refine qy<|qn rfl<|qy<|qF 1 u42 rfl ty40 rfl<|qy<|qV (fun w hs=>run_load1 ty40 rfl (hs.c2 rfl))<|qy<|QL.enter rfl (fun w=>run_call en22 rfl rfl) (fun w hs=>hal (Two.live (A:=_::_::_::LR) hs) (Two.rlive (A:=_::_::_::LR) hs)) ?_
 refine qV (fun w hs=>run_pickT rfl)<|qV (fun w hs=>run_assign)<|QL.nil (fun w hs=>?_)
 refine CW.ret ?_
 refine fin_ret1 rfl ?_
 exact⟨rfl,hs.clear⟩
end
end Go.Gx
