/- Copy from one Store into another: both sides. What a mint's Writer holds behind many pieces. No program in sight. The program's Pack: walked. The document's Packed: its items. The document's Packed: walked. Sweeping, plain. No program in sight. The program's Sweep: walked. FlowSweeps, walked. The ro -/
import Derived.Test.YtplmnkogkfhaiaaGreatT9
import Derived.Test.YtplmnkogkfhaiaaGreatT2
set_option linter.unusedVariables false
set_option linter.unusedSimpArgs false
set_option maxRecDepth 100000
namespace Go.Gx
open Go.Proofs List
attribute [local irreducible] shaL cutD frontL
def cp2 (r:Int×WS) (s t:AS) (of:List (List UInt8)):(Nat×Int×AS)×AS:=if s.k=t.k then (cpR r s t of,s.gotN r.2.g) else ((0,3,t),s)
section
variable{A B X:OL}{w w' w0:World}{S:List Nat}
theorem Lives.as3 (h:Lives ((A++B)++X) w):Lives (A++(B++X)) w:=by rwa [append_assoc] at h
theorem Lives.two (h:Lives (A++(B++X)) w):Lives (A++X) w:=h.sub ((List.Sublist.refl A).append (sublist_append_right B X))
end
section
variable{bp br tp tr:Nat}{s t:AS}{D L Lt R Rt:OL}{d:U8}{rn rd rb:Int}{N k:Nat}{gf of:List (List UInt8)}{w0:World}
section
variable (W:Wkd s d (runs s (rmOf rn rd rb) [rootS d] ws0) gf of k) (ok:s.Ok) (okt:t.Ok) (hfew:s.Few N) (hft:t.Few N) (hN:N<900000000) (hd:d.length=32) (hrm:(rmOf rn rd rb).Ok)
include W ok okt hfew hft hN hd hrm
theorem copyTwo_spec (hT:PRep tp t D Lt) (hR:PRep bp s D L) (hw:Lives ((Lt++L)++D) w0) :
  CP 25 #[pt bp,pt tp,.agg (u8s d).toArray,.agg #[.int .i64 rn,.int .i64 rd,.int .i64 rb]] w0 fun e w'=>∃L2 O2 D2,e=.returned (.tuple #[.int .i64 ((cp2 (runs s (rmOf rn rd rb) [rootS d] ws0) s t of).1.1:Nat),.int .i64 (cp2 (runs s (rmOf rn rd rb) [rootS d] ws0) s t of).1.2.1])∧
   PRep tp (cp2 (runs s (rmOf rn rd rb) [rootS d] ws0) s t of).1.2.2 (D2++D) L2∧PRep bp (cp2 (runs s (rmOf rn rd rb) [rootS d] ws0) s t of).2 (D2++D) O2∧Step (List.map (·.1) (Lt++L)) ((L2++O2)++D2) w0 w':=by
 replace hw:=hw.as3
 have hwk:=fun{w:World} h=>fwalk_spec (w0:=w) hR ok hfew (by omega) hd hrm h
 have ob:∃r,runs s (rmOf rn rd rb) [rootS d] ws0=r:=⟨_,rfl⟩
 obtain⟨r,hr⟩:=ob
 rw[hr] at W⊢
 simp only[hr] at hwk
 have hwf:=fun{w:World} (h:Lives (Lt++(L++D)) w)=>width_abs (w0:=w) hR ok (Own.live h)
 have hwt:=fun{w:World} (h:Lives (Lt++(L++D)) w)=>width_abs (w0:=w) hT okt h.two
 by_cases hk:s.k=t.k
 ·rw[cp2,if_pos hk]
  rw[←hk] at hwt
  refine(copyP_spec (bf:=bp) (tp:=tp) (Q:=fun D O=>PRep bp (s.gotN r.2.g) D O) (Lt:=Lt) (O:=L) (D:=D) (s:=s) (t1:=t) (r:=r) (N:=N) (fun h hm=>h.mono hm) hwf hwt (fun {w} h=>(hwk (Own.live h)).mono ?_) ok okt hft (by omega) hd W.met W.len W.go hw).mono ?_
  ·rintro e w' ⟨v,L',D',M,he,hP,hM,_,hq⟩
   exact⟨v,Lt,L',D',M,he,hT.mono mem_right,hP,hM,Step.fin3 (Y:=Lt++(L'++(M++D'))) h (by
    have h2:=Own.put (A:=Lt) (L:=L) h hq
    have e:(Lt++(L'++(M++D')))++D=Lt++(L'++((M++D')++D)):=by simp[append_assoc]
    rw[e];exact h2)⟩
  ·rintro e w' ⟨L2,O2,D2,he,hP,hQ,hq⟩
   exact⟨L2,O2,D2,he,hP,hQ,by rw[append_assoc];exact hq⟩
 ·rw[cp2,if_neg hk]
  have hdl:(u8s d).length=32:=by rw[u8s,length_map,hd]
  have hs:Step (List.map (·.1) (Lt++(L++D))) (Lt++(L++D)) w0 w0:=hw
  refine calls (n:=67) Tryz.func25 rfl rfl rfl ?_
  refine sr<|WL.box (cs:=u8s d) rfl rfl rfl hs (fun b6 w hs=>?_)
  refine WL.box (cs:=[.int .i64 rn,.int .i64 rd,.int .i64 rb]) rfl rfl rfl hs (fun b7 w hs=>?_)
  refine wA<|wA<|wZ<|cq<|sr<|wm<|wE rfl (run_call en69 rfl rfl) (hwf (Lives.mk hs.tail.tail)) ?_
  rintro e w ⟨rfl,hq⟩
  refine⟨_,rfl,?_⟩
  replace hs:=hs.callE hq
  refine wm<|wE rfl (run_call en69 rfl rfl) (hwt (Lives.mk hs.tail.tail)) ?_
  rintro e w ⟨rfl,hq⟩
  refine⟨_,rfl,?_⟩
  replace hs:=hs.callE hq
  refine wV (run_bT (run_neq rfl rfl) (by exact fun h=>hk (Int.ofNat.inj h)))<|wZ<|CW.cond rfl (fun h=>?_) (fun h=>?_)
  ·refine sr<|wA<|wA<|wZ<|CW.ret ?_
   refine fin_ret2 rfl ?_
   exact⟨Lt,L,[],rfl,hT,hR,by rw[append_nil];exact Step.fin3 (Y:=Lt++L) hw (by rw[append_assoc];exact hs.tail.tail)⟩
  ·cases h
end
end
end Go.Gx
namespace Go.Gx
open Go.Proofs List
def addAll:List (List (List UInt8))→(List UInt8)→Int→(List UInt8)×Int
 | [],c,ft=>(c,ft)
 | ps::l,c,ft=>addAll l (addC c ft ps) (addF c ft ps)
def packB (k:Nat) (l:List (List UInt8)):(List UInt8):=formB 5++formB k++formB l.length++l.flatMap fun x=>formB x.length++x
end Go.Gx
namespace Go.Gx
open Go.Proofs List
attribute [local irreducible] shaL cutD frontL
def packR (s:AS) (r:Int×WS) (of:List (List UInt8)):(List UInt8)×Int:=if r.1≠0 then ([],r.1) else if (packB s.k (of.map fun d=>(s.get d).1)).length≤4194304 then (packB s.k (of.map fun d=>(s.get d).1),0) else ([],2)
def pcs (s:AS) (n:Nat) (l:List (List UInt8)):List (List (List UInt8)):=[[formB 5],[formB s.k],[formB n]]++l.map fun d=>[formB (s.get d).1.length,(s.get d).1]
section
variable{bp:Nat}{s:AS}{D L:OL}{d:U8}{w0:World}{rn rd rb:Int}{N k:Nat}{gf of:List (List UInt8)}
end
end Go.Gx
namespace Go.Gx
open Go.Proofs List
def pkI (k n:Nat) (B:List (Value×(List UInt8))):List Wit:=[⟨1,5,.slice none 0 0,[]⟩,⟨1,k,.slice none 0 0,[]⟩,⟨1,n,.slice none 0 0,[]⟩]++B.map fun t=>⟨4,0,t.1,t.2⟩
def packE (b:(List UInt8)):(List UInt8)×Int:=if b.length≤4194304 then (b,0) else ([],2)
end Go.Gx
namespace Go.Gx
open Go.Proofs List
attribute [local irreducible] shaL cutD frontL
section
variable{s:AS}{rm:Rm}{g:Nat}
theorem visit_gotN (x:Std) (t:WS):visit (s.gotN g) rm x t=visit s rm x t:=rfl
theorem standP_gotN:∀(n:Nat) (x:Std) (t:WS),standP (s.gotN g) rm n x t=standP s rm n x t
 | 0,_,_=>rfl
 | n+1,x,t=>by
  rw[standP,standP,visit_gotN]
  split
  ·rfl
  ·exact seqS_congr fun y _ u=>standP_gotN n y (push y u)
theorem runs_gotN (l:List Std) (t:WS):runs (s.gotN g) rm l t=runs s rm l t:=seqS_congr fun y _ u=>standP_gotN _ y (push y u)
end
def sweepW (s:AS) (rm:Rm):List (List UInt8)→Nat→List (List UInt8)→Int×Nat×List (List UInt8)
 | [],g,m=>(0,g,m)
 | d::l,g,m=>if (runs s rm [rootS d] ws0).1≠0 then ((runs s rm [rootS d] ws0).1,g+(runs s rm [rootS d] ws0).2.g,m) else sweepW s rm l (g+(runs s rm [rootS d] ws0).2.g) (m++ordM (runs s rm [rootS d] ws0).2.m)
def goneL (m l:List (List UInt8)):List (List UInt8):=l.filter fun d=>decide (d∉m)
def evAll (s:AS) (l:List (List UInt8)):AS:=l.foldl AS.evict s
def sweepR (s:AS) (rm:Rm) (roots:List (List UInt8)):Nat×Int×AS:=
 if 65536<roots.length then (0,2,s)
 else if (sweepW s rm roots 0 []).1≠0 then (0,(sweepW s rm roots 0 []).1,s.gotN (sweepW s rm roots 0 []).2.1)
 else ((goneL (sweepW s rm roots 0 []).2.2 (s.X.map (·.d))).length,0,evAll (s.gotN (sweepW s rm roots 0 []).2.1) (goneL (sweepW s rm roots 0 []).2.2 (s.X.map (·.d))))
theorem findX_del{d e:U8} (h:d≠e):∀X:List Blb,findX d (delX e X)=findX d X
 | []=>rfl
 | b::X=>by
  have ih:=findX_del h X
  by_cases hb:b.d=e
  ·have h1:delX e (b::X)=delX e X:=by simp[delX,hb]
   have h2:findX d (b::X)=findX d X:=by
    rw[findX,List.find?_cons]
    have:decide (b.d=d)=false:=by rw[hb];exact decide_eq_false fun h'=>h h'.symm
    rw[this]
    rfl
   rw[h1,h2,ih]
  ·have h1:delX e (b::X)=b::delX e X:=by simp[delX,hb]
   rw[h1,findX,findX,List.find?_cons,List.find?_cons]
   rw[findX,findX] at ih
   rw[ih]
theorem gotN_add (s:AS) (a b:Nat):(s.gotN a).gotN b=s.gotN (a+b):=by simp[AS.gotN,Nat.add_assoc]
section
variable{S:List Nat}{a b c e p q:Nat×Obj}{A B C X Y:OL}{w w':World}
end
section
variable{bp:Nat}{s:AS}{D L Lr:OL}{roots:List (List UInt8)}{v:Value}{w0:World}{rn rd rb:Int}{N:Nat}
end
end Go.Gx
namespace Go.Gx
open Go.Proofs Go.RowKit List
attribute [local irreducible] shaL cutD frontL
def nums (l:List Int):List Value:=l.map fun z=>.int .i64 z
structure Nums (w:World) (v:Value) (l:List Int):Prop where
 sl:Sl w 1 v l.length (nums l)
 rng:∀z∈l,-9223372036854775808≤z∧z≤9223372036854775807
 len:l.length≤9223372036854775807
section
variable{α:Type}{a b c e f:α}{A B C D:List α}
end
section
variable{wd rn rd rb:Int}{x:Stup}{v:Value}{l:List Int}
end
end Go.Gx
namespace Go.Gx
open Go.Proofs List
attribute [local irreducible] shaL cutD frontL decL decE
def slsh (p:(List UInt8)):Nat:=p.count 47
structure Pth (x:Std):Prop where
 z:x.dep=0→x.p=[]
 s:x.dep≠0→x.p≠[]∧slsh x.p+1=x.dep
 l:x.p.length≤65*x.dep
structure PLe (t u:WS):Prop where
 n:t.n≤u.n
 b:t.b≤u.b
 l:∀i∈t.l,i∈u.l
section
variable{s:AS}{rm rm':Rm}
end
def deepL (l:List WI):Nat:=l.foldl (fun m i=>max m (slsh i.p+1)) 0
def rmG:Rm:=rmOf 65536 32 67108864
theorem rmG_ok:rmG.Ok:=⟨by decide,by decide,by decide⟩
end Go.Gx
namespace Go.Gx
open Go.Proofs List
attribute [local irreducible] shaL cutD frontL
section
variable{P:Program}{f:Slots}{w:World}{d:Option Tmp}{ty:TypeId}{pos:String}{af:Array Edge}{x y:Operand}{ats:Array TypeId}{k:IntKind}{a b c:Int}
end
theorem great_spec (w0:World):CP 28 #[] w0 (Ret0 (.agg #[.int .i64 65536,.int .i64 32,.int .i64 67108864]) w0):=by
 have hs:Step [] [] w0 w0:=Step.refl w0
 refine calls (n:=2) Tryz.func28 rfl rfl rfl ?_
 refine sr<|WL.alloc ty30 rfl hs (fun b0 w hs=>?_)
 refine wZ<|sr<|wV (run_build rfl (bld_room _ _ _ _))<|WL.storeAll ty30 rfl rfl ((by rfl)) ((Cells1.of_all rfl)) hs (by rfl) (fun w hs=>?_)
 refine wZ<|CW.ret ?_
 refine fin_cell1 rfl rfl (run_loadVarN ty30 (by rfl) hs.a0) ?_
 exact⟨rfl,hs.clear⟩
def bndV (r:Int×WS):Value:=if r.1=0 then .tuple #[.agg #[.int .i64 (r.2.n:Nat),.int .i64 (deepL r.2.l:Nat),.int .i64 (r.2.b:Nat)],.bool true] else .tuple #[.agg #[.int .i64 0,.int .i64 0,.int .i64 0],.bool false]
section
variable{bw bp br N:Nat}{s:AS}{D R:OL}{d:U8}{vR:Value}{w0:World}
end
end Go.Gx
namespace Go.Gx
open Go.Proofs Go.RowKit List
attribute [local irreducible] shaL cutD frontL
theorem packR_gotN{s:AS}{g:Nat}{r:Int×WS}{of:List (List UInt8)}:packR (s.gotN g) r of=packR s r of:=rfl
theorem partsM_gotN{s:AS}{g:Nat}{m:List (List UInt8×Bool)}:partsM (s.gotN g) m=partsM s m:=rfl
def rN (n:Int) (i:Nat):Int:=if i=1 then n - 1 else n
def rD (n:Int) (i:Nat):Int:=if i=2 then n - 1 else n
def rB (n:Int) (i:Nat):Int:=if i=3 then n - 1 else n
section
variable{α:Type}{a b c e f g:α}{A B C D:List α}
end
section
variable{wd z:Int}{x:Stup}
end
end Go.Gx
namespace Go.Gx
open Go.Proofs List
attribute [local irreducible] shaL cutD frontL
structure LdK (b3 b8 b9 b10 b11 b12 b13 bp:Nat) (rm:Rm) (D:(List (Nat×Obj))):Prop where
 m3:(b3,blk 39 [.pointer (some ⟨bp,0,none⟩)])∈D
 m9:(b9,blk 3 [.int .i64 rm.d])∈D
 m12:(b12,blk 150 [.func (.func 75) #[] #[.pointer (some ⟨b9,0,none⟩),.pointer (some ⟨b10,0,none⟩),.pointer (some ⟨b3,0,none⟩)]])∈D
 m13:(b13,blk 151 [.func (.func 77) #[] #[.pointer (some ⟨b12,0,none⟩),.pointer (some ⟨b8,0,none⟩),.pointer (some ⟨b13,0,none⟩),.pointer (some ⟨b11,0,none⟩)]])∈D
def LdW (b8 b10 b11:Nat) (rm:Rm) (t:WS) (D W:(List (Nat×Obj))):Prop:=
 ∃vL LL T,W=(b8,blk 65 [vL])::(b10,blk 3 [.int .i64 (rm.n - t.n)])::(b11,blk 3 [.int .i64 (rm.b - t.b)])::LL∧OwnSl 155 3 vL t.l.length (rowsW T) LL∧T.map (·.1)=t.l∧∀u∈T,Held D u.2 u.1.x
section
variable{b3 b8 b9 b10 b11 b12 b13 bp N:Nat}{rm:Rm}{s:AS}{t:WS}{x:Std}{D D' W L:OL}{w0:World}
theorem LdK.mono (h:LdK b3 b8 b9 b10 b11 b12 b13 bp rm D) (hD:∀p∈D,p∈D'):LdK b3 b8 b9 b10 b11 b12 b13 bp rm D':=⟨hD _ h.m3,hD _ h.m9,hD _ h.m12,hD _ h.m13⟩
theorem LdW.mono (h:LdW b8 b10 b11 rm t D W) (hD:∀p∈D,p∈D'):LdW b8 b10 b11 rm t D' W:=by
 obtain⟨vL,LL,T,h1,h2,h3,h4⟩:=h
 exact⟨vL,LL,T,h1,h2,h3,fun u hu=>(h4 u hu).mono hD⟩
theorem Step.inD{S:List Nat}{A W L D:OL}{b o:Nat}{T:TypeId}{cs:List Value}{v:Value}{w w':World} (h:Step S (A++(W++(L++D))) w w') (hm:(b,blk T cs)∈D) (ho:cs[o]?=some v):w'.cell? ⟨b,o,none⟩=some v:=
 h.inCell (mem_append_right _ (mem_append_right _ (mem_append_right _ hm))) ho
theorem ldget_spec (hK:LdK b3 b8 b9 b10 b11 b12 b13 bp rm D) (hW:LdW b8 b10 b11 rm t D W) (hR:PRep bp (s.gotN t.g) D L) (ok:s.Ok) (hrm:rm.Ok) (hfew:s.Few N) (hN:N<1000000000000) (hg:t.Good 1) (hd:x.d.length=32) (hdep:x.dep≤34) (hw:Lives (W++(L++D)) w0) :
  CP 75 #[.agg (u8s x.d).toArray,.int .i64 (x.dep:Nat),pt b9,pt b10,pt b3] w0 fun e w'=>∃v y Lv W' L',e=.returned (.tuple #[v,.int .i64 (look s rm x t).1])∧OwnSl 5 1 v y.length (u8s y) Lv∧
   ((look s rm x t).1=0→y=(s.get x.d).1)∧((look s rm x t).1=0→LdW b8 b10 b11 rm (look s rm x t).2 D W')∧PRep bp (s.gotN (look s rm x t).2.g) D L'∧Step ((W++L).map (·.1)) (W'++(L'++Lv)) w0 w':=by
 obtain⟨vL,LL,T,rfl,hvL,hT,hTD⟩:=hW
 have hn1:=hg.n
 have hg1:=hg.g
 have hrn:=hrm.n
 have hrd:=hrm.d
 have hdl:(u8s x.d).length=32:=by rw[u8s,length_map,hd]
 have hs:Step _ ((b8,blk 65 [vL])::(b10,blk 3 [.int .i64 (rm.n - t.n)])::(b11,blk 3 [.int .i64 (rm.b - t.b)])::(LL++(L++D))) w0 w0:=hw
 refine calls (n:=21) Tryz.func75 rfl rfl rfl ?_
 refine sr<|WL.box (cs:=u8s x.d) rfl rfl rfl hs (fun b5 w hs=>?_)
 refine wA<|wA<|wZ ?_
 by_cases c1:rm.d<x.dep
 ·have hlk:look s rm x t=(33,t):=if_pos c1
  rw[hlk]
  refine cq<|sr<|wm<|wl ty3 rfl ((Step.inD (A:=[_]) (W:=_::_::_::LL) hs hK.m9 rfl))<|xT<|wZ<|CW.cond rfl (fun h=>?_) (fun h=>?_)
  ·refine sr<|wA<|wA<|wZ<|CW.ret ?_
   refine fin_ret2 rfl ?_
   exact⟨_,[],[],_,_,rfl,OwnSl.nil _ _,(fun h=>by cases h),(fun h=>by cases h),hR,Step.narrow2 (X:=[]) (W':=_::_::_::LL) hw hs.tail⟩
  ·cases h
 refine cq<|sr<|wm<|wl ty3 rfl ((Step.inD (A:=[_]) (W:=_::_::_::LL) hs hK.m9 rfl))<|xF<|wZ<|CW.cond rfl (fun h=>?_) (fun h=>?_)
 ·cases h
 by_cases c2:rm.n<(t.n:Int)+1
 ·have hlk:look s rm x t=(62,t.node):=by rw[look,if_neg c1,if_pos c2]
  rw[hlk]
  refine ck<|cq<|sr<|wl ty3 rfl (hs.c2 (v:=.int .i64 (rm.n - t.n)) rfl)<|lT<|wZ<|CW.cond rfl (fun h=>?_) (fun h=>?_)
  ·refine sr<|wA<|wA<|wZ<|CW.ret ?_
   refine fin_ret2 rfl ?_
   exact⟨_,[],[],_,_,rfl,OwnSl.nil _ _,(fun h=>by cases h),(fun h=>by cases h),hR,Step.narrow2 (X:=[]) (W':=_::_::_::LL) hw hs.tail⟩
  ·cases h
 have hlk:look s rm x t=((((s.get x.d).2:Nat):Int),t.node.meet x):=by rw[look,if_neg c1,if_neg c2]
 rw[hlk]
 refine ck<|cq<|sr<|wl ty3 rfl (hs.c2 (v:=.int .i64 (rm.n - t.n)) rfl)<|lF<|wZ<|CW.cond rfl (fun h=>?_) (fun h=>?_)
 ·cases h
 refine ck<|sr<|wl ty3 rfl (hs.c2 (v:=.int .i64 (rm.n - t.n)) rfl)<|wS (rm.n - ((t.n+1:Nat):Int))<|WL.store1_2 ty3 rfl rfl (rfl) hs (by first | (simp;done) | omega | (simp only[length_append,length_replicate,length_cons,length_nil,length_set];omega) | (simp[Ent.cells,u8s];done) | exact Nat.le_of_ble_eq_true rfl) (fun w hs=>?_)
 refine wZ ?_
 replace hs:=(show Step _ ((b5,blk 44 (u8s x.d))::(b8,blk 65 [vL])::(b10,blk 3 [.int .i64 (rm.n - ((t.n+1:Nat):Int))])::(b11,blk 3 [.int .i64 (rm.b - t.b)])::(LL++(L++D))) w0 w from hs)
 refine sr<|wl ty39 rfl ((Step.inD (A:=[_]) (W:=_::_::_::LL) hs hK.m3 rfl))<|wR ty44 rfl hdl hs.a0<|wE rfl (run_call en76 rfl rfl) (get_abs (n:=N+t.g) hR (ok.gotN _) (hfew.gotN _) (by omega) (Own.live (A:=_::_::_::_::LL) hs) hd) ?_
 rintro e w ⟨v,Lv,L1,rfl,hv,hP,hq⟩
 refine⟨_,rfl,?_⟩
 replace hs:=Own.put (A:=_::_::_::_::LL) (L:=L) hs hq
 refine wx rfl rfl<|wx rfl rfl<|wA<|wA<|wZ<|CW.ret ?_
 refine fin_ret2 rfl ?_
 exact⟨v,(s.get x.d).1,Lv,(b8,blk 65 [vL])::(b10,blk 3 [.int .i64 (rm.n - ((t.n+1:Nat):Int))])::(b11,blk 3 [.int .i64 (rm.b - t.b)])::LL,L1,rfl,hv,fun _=>rfl,fun _=>⟨vL,LL,T,rfl,hvL,hT,hTD⟩,hP,Step.narrow2 (W':=_::_::_::LL) hw hs.tail⟩
end
section
variable{S:List Nat}{q:Nat×Obj}{P A X:OL}{w w':World}
theorem Step.ldI (h:Step S (q::(P++(A++X))) w w'):Step S (A++(P++X)) w w':=h.tail.perm (perm_append_comm_assoc P A X)
theorem Step.ldO (h:Step S (A++(P++X)) w w'):Step S (P++(A++X)) w w':=h.perm (perm_append_comm_assoc A P X)
theorem Step.ldP{L1 L2:OL} (h:Step S (L1++X) w w') (hp:L1.Perm L2):Step S (L2++X) w w':=h.perm (hp.append_right X)
theorem perm6{α:Type} (a b c d e f:α):[a,b,c,d,e,f].Perm [d,a,b,c,e,f]:=by classical exact perm_iff_count.2 fun x=>by simp only[count_cons,count_nil];omega
theorem perm6b{α:Type} (a b c d e f:α):[d,a,b,c,e,f].Perm [a,b,c,d,e,f]:=(perm6 a b c d e f).symm
theorem perm6c{α:Type} (a b c d e f:α):[a,b,c,d,e,f].Perm [f,d,a,b,c,e]:=by classical exact perm_iff_count.2 fun x=>by simp only[count_cons,count_nil];omega
theorem perm6d{α:Type} (a b c d e f:α):[f,d,a,b,c,e].Perm [a,b,c,d,e,f]:=(perm6c a b c d e f).symm
end
def LdPost (c8 c10 c11 bp:Nat) (rm:Rm) (s:AS) (r:Int×WS) (D W L:(List (Nat×Obj))) (w0:World) (e:Ending) (w':World):Prop:=
 ∃W' L' D',e=.returned (.int .i64 r.1)∧(r.1=0→LdW c8 c10 c11 rm r.2 (D'++D) W')∧PRep bp (s.gotN r.2.g) (D'++D) L'∧Step ((W++L).map (·.1)) (W'++(L'++D')) w0 w'
section
variable{c3 c8 c9 c10 c11 c12 c13 bp N:Nat}{rm:Rm}{s:AS}
set_option maxHeartbeats 16000000 in
theorem ldw_spec (ok:s.Ok) (hrm:rm.Ok) (hfew:s.Few N) (hN:N<1000000000000):∀(n:Nat){x:Std}{t:WS}{D W L:OL}{w0:World},x.dir=true→n+x.dep=34→x.d.length=32→x.p.length≤65*x.dep→t.Good 1→LdK c3 c8 c9 c10 c11 c12 c13 bp rm D→LdW c8 c10 c11 rm t D W→PRep bp (s.gotN t.g) D L→Lives (W++(L++D)) w0→
  CP 77 #[str x.p,.agg (u8s x.d).toArray,.int .i64 (x.dep:Nat),pt c12,pt c8,pt c13,pt c11] w0 (LdPost c8 c10 c11 bp rm s (standP s rm n x t) D W L w0):=by
 intro n
 induction n with
 | zero=>?_
 | succ m ih=>?_
 all_goals
  intro x t D W L w0 hx hn hd hp hg hK hW hR hw
  have hdl:(u8s x.d).length=32:=by rw[u8s,length_map,hd]
  have hgl:=get_len ok x.d
  have hrd:=hrm.d
  have hs:Step _ (W++(L++D)) w0 w0:=hw
 case zero=>
  have hst:=standP_err (s:=s) (t:=t) hrd.2 hn (by rw[look_deep (by omega)];simp)
  rw[hst]
  have hl33:look s rm x t=(33,t):=look_deep (by omega)
  refine calls (n:=98) Tryz.func77 rfl rfl rfl ?_
  refine sr<|WL.box (cs:=u8s x.d) rfl rfl rfl hs (fun b8 w hs=>?_)
  refine wA<|wZ<|sr<|wl ty150 rfl ((Step.inD (A:=[_]) hs hK.m12 rfl))<|wR ty44 rfl hdl hs.a0<|wm<|wE rfl (run_callV (cap:=[pt c9,pt c10,pt c3]) en75 rfl rfl) (ldget_spec hK hW hR ok hrm hfew hN hg hd (by omega) (Lives.mk hs.tail)) ?_
  rintro e w ⟨v,y,Lv,W1,L1,rfl,hvy,hy,hW1,hR1,hq⟩
  refine⟨_,rfl,?_⟩
  replace hs:=Step.wput (A:=[_]) hs hq
  refine wm<|wx rfl rfl<|wx rfl rfl<|wA<|wA<|wZ ?_
  rw[hl33] at hW1 hR1⊢
  refine cq<|sr<|wm<|wV (run_bT (run_neq rfl rfl) (by exact fun h=>by cases h))<|wZ<|CW.cond rfl (fun h=>?_) (fun h=>?_)
  ·refine sr<|wm<|wA<|wZ<|CW.ret ?_
   refine fin_ret1 rfl ?_
   exact⟨W1,L1,Lv,rfl,(fun h=>by cases h),hR1.mono mem_right,Step.narrow2 hw hs.tail⟩
  ·cases h
 case succ=>
  by_cases hl:(look s rm x t).1≠0
  ·rw[standP_err hrd.2 hn hl]
   refine calls (n:=98) Tryz.func77 rfl rfl rfl ?_
   refine sr<|WL.box (cs:=u8s x.d) rfl rfl rfl hs (fun b8 w hs=>?_)
   refine wA<|wZ<|sr<|wl ty150 rfl ((Step.inD (A:=[_]) hs hK.m12 rfl))<|wR ty44 rfl hdl hs.a0<|wm<|wE rfl (run_callV (cap:=[pt c9,pt c10,pt c3]) en75 rfl rfl) (ldget_spec hK hW hR ok hrm hfew hN hg hd (by omega) (Lives.mk hs.tail)) ?_
   rintro e w ⟨v,y,Lv,W1,L1,rfl,hvy,hy,hW1,hR1,hq⟩
   refine⟨_,rfl,?_⟩
   replace hs:=Step.wput (A:=[_]) hs hq
   refine wm<|wx rfl rfl<|wx rfl rfl<|wA<|wA<|wZ<|cq<|sr<|wm<|wV (run_bT (run_neq rfl rfl) (by exact hl))<|wZ<|CW.cond rfl (fun h=>?_) (fun h=>?_)
   ·refine sr<|wm<|wA<|wZ<|CW.ret ?_
    refine fin_ret1 rfl ?_
    exact⟨W1,L1,Lv,rfl,(fun h=>absurd h hl),hR1.mono mem_right,Step.narrow2 hw hs.tail⟩
   ·cases h
  have hl0:(look s rm x t).1=0:=by simpa using hl
  refine calls (n:=98) Tryz.func77 rfl rfl rfl ?_
  refine sr<|WL.box (cs:=u8s x.d) rfl rfl rfl hs (fun b8 w hs=>?_)
  refine wA<|wZ<|sr<|wl ty150 rfl ((Step.inD (A:=[_]) hs hK.m12 rfl))<|wR ty44 rfl hdl hs.a0<|wm<|wE rfl (run_callV (cap:=[pt c9,pt c10,pt c3]) en75 rfl rfl) (ldget_spec hK hW hR ok hrm hfew hN hg hd (by omega) (Lives.mk hs.tail)) ?_
  rintro e w ⟨v,y,Lv,W1,L1,rfl,hvy,hy,hW1,hR1,hq⟩
  refine⟨_,rfl,?_⟩
  replace hs:=Step.wput (A:=[_]) hs hq
  refine wm<|wx rfl rfl<|wx rfl rfl<|wA<|wA<|wZ ?_
  obtain rfl:=hy hl0
  have hW1:=hW1 hl0
  have hHl:Held (Lv++D) v (s.get x.d).1:=⟨Lv,hvy,fun p hp=>mem_append_left _ hp⟩
  refine cq<|sr<|wm<|wV (run_bF (run_neq rfl rfl) (by exact fun h=>h hl0))<|wZ<|CW.cond rfl (fun h=>?_) (fun h=>?_)
  ·cases h
  by_cases hde:decE (s.get x.d).1≠0
  ·rw[standP_bad hrd.2 hx hn hl0 hde]
   refine ck<|sr<|wm<|wE rfl (run_call en78 rfl rfl) (decode_at _ (hHl.sl fun p hp=>hs.has p (mem_r3 (W:=W1) (R:=L1) hp)) (by omega)) ?_
   rintro e w ⟨u,Le,rfl,hu,hoks,hle,hq⟩
   refine⟨_,rfl,?_⟩
   replace hs:=Step.call0 hs hq
   refine wm<|wx rfl rfl<|wx rfl rfl<|wA<|wA<|wZ<|cq<|sr<|wm<|wV (run_bT (run_neq rfl rfl) (by exact hde))<|wZ<|CW.cond rfl (fun h=>?_) (fun h=>?_)
   ·refine sr<|wm<|wA<|wZ<|CW.ret ?_
    refine fin_ret1 rfl ?_
    exact⟨W1,L1,Lv,rfl,(fun h=>absurd h hde),hR1.mono mem_right,Step.narrow2 hw (Step.dropL hs).tail⟩
   ·cases h
  have hde0:decE (s.get x.d).1=0:=by simpa using hde
  refine ck<|sr<|wm<|wE rfl (run_call en78 rfl rfl) (decode_at _ (hHl.sl fun p hp=>hs.has p (mem_r3 (W:=W1) (R:=L1) hp)) (by omega)) ?_
  rintro e w ⟨u,Le,rfl,hu,hoks,hle,hq⟩
  refine⟨_,rfl,?_⟩
  replace hs:=Step.call0 hs hq
  refine wm<|wx rfl rfl<|wx rfl rfl<|wA<|wA<|wZ<|cq<|sr<|wm<|wV (run_bF (run_neq rfl rfl) (by exact fun h=>h hde0))<|wZ<|CW.cond rfl (fun h=>?_) (fun h=>?_)
  ·cases h
  have hgd:=look_good hrm hx hg hl0 hde0
  rw[standP_go hx hl0 hde0]
  have ob:∃r,seqS (fun y u=>standP s rm m y (push y u)) (kids x (s.get x.d).1) (look s rm x t).2=r:=⟨_,rfl⟩
  obtain⟨r,hr⟩:=ob
  rw[hr]
  have ob:∃l,decL (s.get x.d).1=l:=⟨_,rfl⟩
  obtain⟨l,hll⟩:=ob
  have hnm:∀e∈l,isName e.name=true:=hll▸decL_name
  have hk:kids x (s.get x.d).1=l.map (kidOf x):=by rw[kids,hll]
  rw[hk] at hr
  rw[hll] at hu hoks hle
  have ob:=hu.form
  obtain⟨ua,uc,rfl⟩:=ob
  refine ck<|cq<|sr<|wm<|wL u116 rfl<|wm<|wZ<|cB<|CW.loop (fun z f w'=>∃i t' W' L' D',i≤l.length∧z=l.length - i∧seqS (fun y u=>standP s rm m y (push y u)) ((l.map (kidOf x)).drop i) t'=r∧t'.Good 0∧LdW c8 c10 c11 rm t' (D'++D) W'∧PRep bp (s.gotN t'.g) (D'++D) L'∧Step (List.map (·.1) (W++(L++D))) (Le++((b8,blk 44 (u8s x.d))::(W'++(L'++(D'++D))))) w0 w'∧Holds f [(0,str x.p),(2,.int .i64 (x.dep:Nat)),(3,pt c12),(4,pt c8),(5,pt c13),(6,pt c11),(38,.slice ua l.length uc),(39,.int .i64 (l.length:Nat)),(40,.int .i64 (i:Nat))]) (m:=l.length) ?_ ?_
  ·exact⟨0,_,W1,L1,Lv,Nat.zero_le _,rfl,hr,hgd,hW1.mono mem_right,hR1.mono mem_right,hs,rfl,rfl,rfl,rfl,rfl,rfl,rfl,rfl,rfl,trivial⟩
  clear hs
  rintro z f w ⟨i,t',W',L',D',hi,rfl,hr,hg',hW',hR',hs,hf⟩
  have hK':LdK c3 c8 c9 c10 c11 c12 c13 bp rm (D'++D):=hK.mono mem_right
  by_cases hlt:i<l.length
  ·have ob:=hu.some1 (by omega)
   obtain⟨bu,cu,more,hu1,hu2,hu3⟩:=ob
   rw[hu1] at hf
   have ob:=hf.chain
   obtain⟨g,rfl⟩:=ob
   rw[hu2] at hs
   replace hs:Step (List.map (·.1) (W++(L++D))) ((bu,blk 115 (rows l++more))::(b8,blk 44 (u8s x.d))::(W'++(L'++(D'++D)))) w0 w:=hs
   have ob:∃e,l[i]=e:=⟨_,rfl⟩
   obtain⟨e,he⟩:=ob
   have hmem:e∈l:=he▸getElem_mem hlt
   have heo:=hoks e hmem
   have hel:(u8s e.dig).length=32:=by rw[u8s,length_map,heo.1]
   have hec:=Ent.cells_len heo
   have hent:At w bu (0+i*34) e.cells:=by
    have h2:=(At.of_blk hs.hd).left.ent hoks hlt
    rw[he] at h2;exact h2
   have hdrop:(l.map (kidOf x)).drop i=kidOf x e::(l.map (kidOf x)).drop (i+1):=by
    rw[drop_eq_getElem_cons (by rw[length_map];exact hlt),getElem_map,he]
   rw[hdrop,seqS] at hr
   have hnl:=nameLe (hnm e hmem)
   have hjl:=joinP_le (p:=x.p) hnl
   refine sr<|lT<|wZ<|cq<|CW.cond rfl (fun h=>?_) (fun h=>?_)
   ·refine ck<|cq<|cB<|sr<|wI u116 ty115 rfl rfl<|wR ty115 rfl hec hent<|WL.alloc ty115 rfl hs (fun b15 w hs=>?_)
    refine WL.storeAll ty115 rfl rfl ((hec)) ((Ent.cells1 _)) hs (by rfl) (fun w hs=>?_)
    refine wZ ?_
    replace hs:Step (List.map (·.1) (W++(L++D))) ((b15,blk 115 e.cells)::(bu,blk 115 (rows l++more))::(b8,blk 44 (u8s x.d))::(W'++(L'++(D'++D)))) w0 w:=hs
    refine sr<|wF 0 u115 rfl ty9 rfl<|wl ty9 rfl (hs.c0 (v:=str e.name) rfl)<|wA<|wZ<|CW.seqM (fun f w=>Step (List.map (·.1) (W++(L++D))) ((b15,blk 115 e.cells)::(bu,blk 115 (rows l++more))::(b8,blk 44 (u8s x.d))::(W'++(L'++(D'++D)))) w0 w∧Holds f [(0,str x.p),(2,.int .i64 (x.dep:Nat)),(3,pt c12),(4,pt c8),(5,pt c13),(6,pt c11),(15,pt b15),(16,str (joinP x.p e.name)),(38,.slice (some ⟨bu,0,none⟩) l.length cu),(39,.int .i64 (l.length:Nat)),(40,.int .i64 (i:Nat))]) ?_ ?_
    ·by_cases hp0:x.p=[]
     ·refine sr<|wm<|wV (run_bF (run_strNe rfl rfl) (by exact fun h=>h hp0))<|wZ<|CW.cond rfl (fun h=>?_) (fun h=>?_)
      ·cases h
      refine ck ?_
      exact⟨rfl,hs,rfl,rfl,rfl,rfl,rfl,rfl,rfl,congrArg str (if_pos hp0).symm,rfl,rfl,rfl,trivial⟩
     ·refine sr<|wm<|wV (run_bT (run_strNe rfl rfl) (by exact hp0))<|wZ<|CW.cond rfl (fun h=>?_) (fun h=>?_)
      ·skip
       refine cr<|wm<|wV (run_strAdd rfl rfl ((by simp;omega)))<|wF 0 u115 rfl ty9 rfl<|wl ty9 rfl (hs.c0 (v:=str e.name) rfl)<|wV (run_strAdd rfl rfl ((by simp;omega)))<|wA<|wZ ?_
       exact⟨rfl,hs,rfl,rfl,rfl,rfl,rfl,rfl,rfl,congrArg str (by rw[joinP,if_neg hp0];simp),rfl,rfl,rfl,trivial⟩
      ·cases h
    clear hs hent
    rintro f w ⟨hs,hf⟩
    have ob:=hf.chain
    obtain⟨g,rfl⟩:=ob
    have hpj:(joinP x.p e.name).length≤65*(x.dep+1):=by omega
    have hdgs:∀{X:OL}{w:World},Step (List.map (·.1) (W++(L++D))) ((b15,blk 115 e.cells)::X) w0 w→At w b15 (0+2) (u8s e.dig):=fun h=>(At.of_blk h.hd).drop 2
    by_cases hkd:e.kind=2
    ·have hkx:(kidOf x e).dir=true:=by simp[kidOf,hkd]
     have hpu:push (kidOf x e) t' = { t' with l:=t'.l++[⟨joinP x.p e.name,true,[]⟩] }:=push_dir hkx (by simp[kidOf]) t'
     obtain⟨vL,LL,T,rfl,hvL,hT,hTD⟩:=hW'
     have ob:=hvL.form
     obtain⟨la,lc,rfl⟩:=ob
     have hgl':=hg'.l
     have hgn':=hg'.n
     refine cq<|sr<|wF 1 u115 rfl ty3 rfl<|wl ty3 rfl (hs.c0 (v:=.int .i64 e.kind) rfl)<|wV (run_bT (run_eql rfl rfl) (by exact hkd))<|wZ<|CW.cond rfl (fun h=>?_) (fun h=>?_)
     ·replace hs:=Step.ldP (L1:=[_,_,_,_,_,_]) hs (perm6 _ _ _ _ _ _)
      replace hs:Step (List.map (·.1) (W++(L++D))) ([(c8,blk 65 [.slice la t'.l.length lc]),(b15,blk 115 e.cells),(bu,blk 115 (rows l++more)),(b8,blk 44 (u8s x.d)),(c10,blk 3 [.int .i64 (rm.n - t'.n)]),(c11,blk 3 [.int .i64 (rm.b - t'.b)])]++(LL++(L'++(D'++D)))) w0 w:=hs
      refine sr<|wl ty65 rfl (hs.c0 (v:=.slice la t'.l.length lc) rfl)<|wm<|wV (run_build rfl (bld_wd _ _))<|WL.buildSlice (cs:=[str (joinP x.p e.name),.bool true,.slice none 0 0]) u65 ty155 rfl (by decide) rfl (filled1 rfl rfl) rfl hs (fun b59 w hs=>?_)
      have hsl59:Sl w 3 (.slice (some ⟨b59,0,none⟩) 1 1) 1 [str (joinP x.p e.name),.bool true,.slice none 0 0]:=.own1 hs rfl
      replace hs:=Step.ldI (P:=[_,_,_,_,_,_]) hs
      refine WL.append u65 u65 ty155 rfl (by decide) rfl rfl (hvL) (hs) (hsl59) (Cells1.of_all rfl) (by omega) rfl (fun v60 Lv60 w hv60 hs=>?_)
      replace hs:=Step.ldO (P:=[_,_,_,_,_,_]) hs
      refine ws1 ty65 rfl rfl (hv60.one) hs (fun w hs=>?_)
      refine wZ ?_
      replace hs:=Step.ldP (L1:=[_,_,_,_,_,_]) hs (perm6b _ _ _ _ _ _)
      replace hs:Step (List.map (·.1) (W++(L++D))) ((b15,blk 115 e.cells)::(bu,blk 115 (rows l++more))::(b8,blk 44 (u8s x.d))::(((c8,blk 65 [v60])::(c10,blk 3 [.int .i64 (rm.n - t'.n)])::(c11,blk 3 [.int .i64 (rm.b - t'.b)])::Lv60)++(L'++(D'++D)))) w0 w:=hs
      have hW2:LdW c8 c10 c11 rm (push (kidOf x e) t') (D'++D) ((c8,blk 65 [v60])::(c10,blk 3 [.int .i64 (rm.n - t'.n)])::(c11,blk 3 [.int .i64 (rm.b - t'.b)])::Lv60):=by
       refine⟨v60,Lv60,T++[(⟨joinP x.p e.name,true,[]⟩,.slice none 0 0)],by rw[hpu],?_,?_,?_⟩
       ·have e1:(push (kidOf x e) t').l.length=t'.l.length+1:=by rw[hpu];show(t'.l++[_]).length=_;simp
        rw[e1,rowsW_snoc];exact hv60
       ·rw[hpu,map_append,hT];rfl
       ·intro u hu
        rcases mem_append.1 hu with hu | hu
        ·exact hTD u hu
        ·obtain rfl:=mem_singleton.1 hu
         exact⟨[],OwnSl.nil _ _,fun p hp=>by cases hp⟩
      refine cq<|sr<|wl ty151 rfl ((Step.inD (A:=[_,_,_]) (W:=_::_::_::Lv60) hs hK'.m13 rfl))<|wm<|wF 2 u115 rfl ty44 rfl<|wR ty44 rfl hel (hdgs hs)<|wm<|wP ((x.dep+1:Nat):Int)<|wE rfl (run_callV (cap:=[pt c12,pt c8,pt c13,pt c11]) en77 rfl rfl) (ih (x:=kidOf x e) hkx (show m+(x.dep+1)=34 by omega) heo.1 hpj ((push_good _ hg').mono (by unfold kOf;split <;> omega)) hK' hW2 (by rw[push_g];exact hR') (Lives.mk hs.tail.tail.tail)) ?_
      rintro e w ⟨W2,L2,D2,rfl,hW3,hR3,hq⟩
      refine⟨_,rfl,?_⟩
      replace hs:=Step.wput (A:=[_,_,_]) (W:=_::_::_::Lv60) hs hq
      refine wA<|wZ ?_
      by_cases her:(standP s rm m (kidOf x e) (push (kidOf x e) t')).1≠0
      ·rw[if_pos her] at hr
       obtain rfl:=hr
       refine sr<|wm<|wV (run_bT (run_neq rfl rfl) (by exact her))<|wZ<|CW.cond rfl (fun h=>?_) (fun h=>?_)
       ·refine sr<|wm<|wA<|wZ<|CW.ret ?_
        refine fin_ret1 rfl ?_
        exact⟨W2,L2,D2++D',rfl,(fun h=>absurd h her),by rw[append_assoc];exact hR3,Step.narrow2 hw (by rw[append_assoc];exact hs.tail.tail.tail)⟩
       ·cases h
      ·rw[if_neg her] at hr
       have her0:(standP s rm m (kidOf x e) (push (kidOf x e) t')).1=0:=by simpa using her
       refine sr<|wm<|wV (run_bF (run_neq rfl rfl) (by exact her))<|wZ<|CW.cond rfl (fun h=>?_) (fun h=>?_)
       ·cases h
       refine ck<|CW.exit<|cr<|wP ((i+1:Nat):Int)<|wm<|wZ<|(show _∧_ from⟨rfl,_,?_,i+1,_,W2,L2,D2++D',hlt,rfl,hr,standP_good hrm m (push_good _ hg') her0,by rw[append_assoc];exact hW3 her0,by rw[append_assoc];exact hR3,by rw[hu2,append_assoc];exact hs.tail,rfl,rfl,rfl,rfl,rfl,rfl,hu1.symm,rfl,rfl,trivial⟩)
       omega
     ·cases h
    ·have hkx:(kidOf x e).dir=false:=by simp[kidOf,hkd]
     have hsf:standP s rm m (kidOf x e) (push (kidOf x e) t')=((visit s rm (kidOf x e) t').1,(visit s rm (kidOf x e) t').2.2):=by
      rw[push_file hkx]
      exact standP_file hrd.2 hkx (show m+(x.dep+1)=34 by omega) t'
     have hv:=visit_look s rm (kidOf x e) t'
     rw[if_neg (show ¬(kidOf x e).dir=true by simp[hkx])] at hv
     have hb1:=hg'.b
     have hl1:=hg'.l
     have hn1:=hg'.n
     have hrb:=hrm.b
     have hgl2:=get_len ok e.dig
     have hlb:(look s rm (kidOf x e) t').2.b=t'.b:=by
      unfold look;split
      ·rfl
      ·split <;> rfl
     have hll3:(look s rm (kidOf x e) t').2.l=t'.l:=by
      unfold look;split
      ·rfl
      ·split <;> rfl
     refine cq<|sr<|wF 1 u115 rfl ty3 rfl<|wl ty3 rfl (hs.c0 (v:=.int .i64 e.kind) rfl)<|wV (run_bF (run_eql rfl rfl) (by exact hkd))<|wZ<|CW.cond rfl (fun h=>?_) (fun h=>?_)
     ·cases h
     refine ck<|sr<|wl ty150 rfl ((Step.inD (A:=[_,_,_]) hs hK'.m12 rfl))<|wF 2 u115 rfl ty44 rfl<|wR ty44 rfl hel (hdgs hs)<|wm<|wP ((x.dep+1:Nat):Int)<|wE rfl (run_callV (cap:=[pt c9,pt c10,pt c3]) en75 rfl rfl) (ldget_spec (x:=kidOf x e) hK' hW' hR' ok hrm hfew hN (hg'.mono (by omega)) heo.1 (show x.dep+1≤34 by omega) (Lives.mk hs.tail.tail.tail)) ?_
     rintro e w ⟨v2,y,Lv2,W2,L2,rfl,hvy2,hy2,hW2,hP2,hq⟩
     refine⟨_,rfl,?_⟩
     replace hs:=Step.wput (A:=[_,_,_]) hs hq
     refine wm<|wx rfl rfl<|wx rfl rfl<|wA<|wA<|wZ ?_
     rw[hsf] at hr
     have ob:∃er,(look s rm (kidOf x e) t').1=er:=⟨_,rfl⟩
     obtain⟨er,her⟩:=ob
     have ob:∃u2,(look s rm (kidOf x e) t').2=u2:=⟨_,rfl⟩
     obtain⟨u2,hu2e⟩:=ob
     rw[her,hu2e] at hv
     rw[her] at hy2 hW2
     rw[hu2e] at hlb hll3 hW2 hP2
     by_cases c1:er≠0
     ·rw[if_pos c1] at hv
      rw[hv] at hr
      simp only at hr
      rw[if_pos c1] at hr
      obtain rfl:=hr
      refine cq<|sr<|wm<|wV (run_bT (run_neq rfl rfl) (by rw[her];exact c1))<|wZ<|CW.cond rfl (fun h=>?_) (fun h=>?_)
      ·refine sr<|wm<|wA<|wZ<|CW.ret ?_
       refine fin_ret1 rfl ?_
       exact⟨W2,L2,Lv2++D',congrArg (fun z=>Ending.returned (.int .i64 z)) her,(fun h=>absurd h c1),by rw[append_assoc];exact hP2.mono mem_right,Step.narrow2 hw (by rw[append_assoc];exact hs.tail.tail.tail)⟩
      ·cases h
     have h0:er=0:=by simpa using c1
     subst h0
     rw[if_neg (by simp)] at hv
     have hW2:=hW2 rfl
     obtain rfl:=hy2 rfl
     have ob:=hvy2.form
     obtain⟨va2,vc2,rfl⟩:=ob
     obtain⟨vL,LL,T,rfl,hvL,hT,hTD⟩:=hW2
     have hHl2:Held (Lv2++(D'++D)) (.slice va2 (s.get (kidOf x e).d).1.length vc2) (s.get (kidOf x e).d).1:=⟨Lv2,hvy2,fun p hp=>mem_append_left _ hp⟩
     have hgl3:(s.get (kidOf x e).d).1.length≤67108864:=Nat.le_trans hgl2 (by decide)
     have ob:=hvL.form
     obtain⟨la,lc,rfl⟩:=ob
     have hll4:u2.l.length≤65537:=by rw[hll3];omega
     refine cq<|sr<|wm<|wV (run_bF (run_neq rfl rfl) (by rw[her];exact fun h=>h rfl))<|wZ<|CW.cond rfl (fun h=>?_) (fun h=>?_)
     ·cases h
     replace hs:=Step.ldP (L1:=[_,_,_,_,_,_]) hs (perm6c _ _ _ _ _ _)
     replace hs:Step (List.map (·.1) (W++(L++D))) ([(c11,blk 3 [.int .i64 (rm.b - u2.b)]),(c8,blk 65 [.slice la u2.l.length lc]),(b15,blk 115 e.cells),(bu,blk 115 (rows l++more)),(b8,blk 44 (u8s x.d)),(c10,blk 3 [.int .i64 (rm.n - u2.n)])]++(LL++(L2++(Lv2++(D'++D))))) w0 w:=hs
     by_cases c2:rm.b<(u2.b:Int)+(s.get (kidOf x e).d).1.length
     ·rw[if_pos c2] at hv
      rw[hv] at hr
      simp only at hr
      rw[if_pos (by decide)] at hr
      obtain rfl:=hr
      refine ck<|cq<|sr<|wm<|wL u76 rfl<|wl ty3 rfl (hs.c0 (v:=.int .i64 (rm.b - u2.b)) rfl)<|xT<|wZ<|CW.cond rfl (fun h=>?_) (fun h=>?_)
      ·refine sr<|wA<|wZ<|CW.ret ?_
       refine fin_ret1 rfl ?_
       refine⟨(c8,blk 65 [.slice la u2.l.length lc])::(c10,blk 3 [.int .i64 (rm.n - u2.n)])::(c11,blk 3 [.int .i64 (rm.b - u2.b)])::LL,L2,Lv2++D',rfl,(fun h=>by cases h),by rw[append_assoc];exact hP2.mono mem_right,Step.narrow2 hw ?_⟩
       rw[append_assoc]
       exact(Step.ldP (L1:=[_,_,_,_,_,_]) hs (perm6d _ _ _ _ _ _)).tail.tail.tail
      ·cases h
     rw[if_neg c2] at hv
     rw[hv] at hr
     simp only at hr
     rw[if_neg (by simp)] at hr
     refine ck<|cq<|sr<|wm<|wL u76 rfl<|wl ty3 rfl (hs.c0 (v:=.int .i64 (rm.b - u2.b)) rfl)<|xF<|wZ<|CW.cond rfl (fun h=>?_) (fun h=>?_)
     ·cases h
     refine ck<|sr<|wl ty3 rfl (hs.c0 (v:=.int .i64 (rm.b - u2.b)) rfl)<|wm<|wL u76 rfl<|wS (rm.b - ((u2.b+(s.get (kidOf x e).d).1.length:Nat):Int))<|ws1 ty3 rfl rfl (rfl) hs (fun w hs=>?_)
     refine wZ ?_
     replace hs:Step (List.map (·.1) (W++(L++D))) ([(c11,blk 3 [.int .i64 (rm.b - ((u2.b+(s.get (kidOf x e).d).1.length:Nat):Int))]),(c8,blk 65 [.slice la u2.l.length lc]),(b15,blk 115 e.cells),(bu,blk 115 (rows l++more)),(b8,blk 44 (u8s x.d)),(c10,blk 3 [.int .i64 (rm.n - u2.n)])]++(LL++(L2++(Lv2++(D'++D))))) w0 w:=hs
     refine cr<|wl ty65 rfl (hs.c1 (v:=.slice la u2.l.length lc) rfl)<|wm<|wm<|wV (run_build rfl (bld_wi _ _ _ _ _))<|WL.buildSlice (cs:=[str (joinP x.p e.name),.bool false,.slice va2 (s.get (kidOf x e).d).1.length vc2]) u65 ty155 rfl (by decide) rfl (filled1 rfl rfl) rfl hs (fun b95 w hs=>?_)
     have hsl95:Sl w 3 (.slice (some ⟨b95,0,none⟩) 1 1) 1 [str (joinP x.p e.name),.bool false,.slice va2 (s.get (kidOf x e).d).1.length vc2]:=.own1 hs rfl
     replace hs:=Step.ldI (P:=[_,_,_,_,_,_]) hs
     refine WL.append u65 u65 ty155 rfl (by decide) rfl rfl (hvL) (hs) (hsl95) (Cells1.of_all rfl) (by omega) rfl (fun v96 Lv96 w hv96 hs=>?_)
     replace hs:=Step.ldO (P:=[_,_,_,_,_,_]) hs
     refine ws1 ty65 rfl rfl (hv96.one) (hs.swap) (fun w hs=>?_)
     refine wZ ?_
     replace hs:Step (List.map (·.1) (W++(L++D))) ([(c11,blk 3 [.int .i64 (rm.b - ((u2.b+(s.get (kidOf x e).d).1.length:Nat):Int))]),(c8,blk 65 [v96]),(b15,blk 115 e.cells),(bu,blk 115 (rows l++more)),(b8,blk 44 (u8s x.d)),(c10,blk 3 [.int .i64 (rm.n - u2.n)])]++(Lv96++(L2++(Lv2++(D'++D))))) w0 w:=hs.swap
     replace hs:=Step.ldP (L1:=[_,_,_,_,_,_]) hs (perm6d _ _ _ _ _ _)
     replace hs:Step (List.map (·.1) (W++(L++D))) ((b15,blk 115 e.cells)::(bu,blk 115 (rows l++more))::(b8,blk 44 (u8s x.d))::(((c8,blk 65 [v96])::(c10,blk 3 [.int .i64 (rm.n - u2.n)])::(c11,blk 3 [.int .i64 (rm.b - ((u2.b+(s.get (kidOf x e).d).1.length:Nat):Int))])::Lv96)++(L2++(Lv2++(D'++D))))) w0 w:=hs
     have hv':standP s rm m (kidOf x e) (push (kidOf x e) t')=(0,(u2.byte (s.get (kidOf x e).d).1.length).item ⟨(kidOf x e).p,false,(s.get (kidOf x e).d).1⟩):=by rw[hsf,hv]
     refine cr<|wP ((i+1:Nat):Int)<|wm<|wZ<|(show _∧_ from⟨rfl,_,?_,i+1,_,(c8,blk 65 [v96])::(c10,blk 3 [.int .i64 (rm.n - u2.n)])::(c11,blk 3 [.int .i64 (rm.b - ((u2.b+(s.get (kidOf x e).d).1.length:Nat):Int))])::Lv96,L2,Lv2++D',hlt,rfl,hr,?_,?_,?_,?_,rfl,rfl,rfl,rfl,rfl,rfl,hu1.symm,rfl,rfl,trivial⟩)
     ·omega
     ·have:=standP_good (s:=s) hrm m (x:=kidOf x e) (t:=push (kidOf x e) t') (push_good _ hg') (by rw[hv'])
      rw[hv'] at this
      exact this
     ·refine⟨v96,Lv96,T++[(⟨joinP x.p e.name,false,(s.get (kidOf x e).d).1⟩,.slice va2 (s.get (kidOf x e).d).1.length vc2)],rfl,?_,?_,?_⟩
      ·show OwnSl _ _ _ (u2.l++[_]).length _ _
       rw[length_append,rowsW_snoc];exact hv96
      ·show _=u2.l++[_]
       rw[map_append,hT];rfl
      ·intro u hu
       rw[append_assoc]
       rcases mem_append.1 hu with hu | hu
       ·exact(hTD u hu).mono mem_right
       ·obtain rfl:=mem_singleton.1 hu
        exact hHl2
     ·rw[append_assoc];exact hP2.mono mem_right
     ·rw[hu2,append_assoc];exact hs.tail
   ·cases h
  ·have ob:=hf.chain
   obtain⟨g,rfl⟩:=ob
   obtain rfl:i=l.length:=by omega
   rw[drop_of_length_le (by rw[length_map];exact Nat.le_refl _)] at hr
   obtain rfl:=hr
   refine sr<|lF<|wZ<|cq<|CW.cond rfl (fun h=>?_) (fun h=>?_)
   ·cases h
   refine CW.exit<|sr<|wA<|wZ<|CW.ret ?_
   refine fin_ret1 rfl ?_
   exact⟨W',L',D',rfl,fun _=>hW',hR',Step.narrow2 hw (Step.dropL hs).tail⟩
end
theorem Step.thd{S:List Nat}{a b c:Nat×Obj}{X:OL}{w w':World} (h:Step S (a::b::c::X) w w'):Step S (c::a::b::X) w w':=h.perm (by classical exact perm_iff_count.2 fun x=>by simp only[count_cons];omega)
section
variable{bp:Nat}{s:AS}{D L:OL}{d:U8}{w0:World}{rn rd rb:Int}{N:Nat}
set_option maxHeartbeats 8000000 in
theorem load_spec (hR:PRep bp s D L) (ok:s.Ok) (hfew:s.Few N) (hN:N<1000000000000) (hd:d.length=32) (hrm:(rmOf rn rd rb).Ok) (hw:Lives (L++D) w0) :
  CP 27 #[pt bp,.agg (u8s d).toArray,.agg #[.int .i64 rn,.int .i64 rd,.int .i64 rb]] w0 fun e w'=>∃v T Lv L' D',e=.returned (.tuple #[v,.int .i64 (runs s (rmOf rn rd rb) [rootS d] ws0).1])∧
   PRep bp (s.gotN (runs s (rmOf rn rd rb) [rootS d] ws0).2.g) (D'++D) L'∧OwnSl 155 3 v T.length (rowsW T) Lv∧((runs s (rmOf rn rd rb) [rootS d] ws0).1=0→T.map (·.1)=(runs s (rmOf rn rd rb) [rootS d] ws0).2.l)∧((runs s (rmOf rn rd rb) [rootS d] ws0).1≠0→T=[])∧(∀u∈T,Held (D'++D) u.2 u.1.x)∧Step (L.map (·.1)) (L'++(Lv++D')) w0 w':=by
 rw[runs_root]
 have hdl:(u8s d).length=32:=by rw[u8s,length_map,hd]
 have hs:Step (List.map (·.1) (L++D)) (L++D) w0 w0:=hw
 have ob:∃rm,rmOf rn rd rb=rm:=⟨_,rfl⟩
 obtain⟨rm,hrme⟩:=ob
 have e1:minZ rd 32=rm.d:=by rw[←hrme];rfl
 have e2:minZ rn 65536=rm.n:=by rw[←hrme];rfl
 have e3:minZ rb 67108864=rm.b:=by rw[←hrme];rfl
 rw[hrme] at hrm⊢
 refine calls (n:=33) Tryz.func27 rfl rfl rfl ?_
 refine sr<|WL.box rfl (rfl) rfl hs (fun b3 w hs=>?_)
 refine WL.box (cs:=u8s d) rfl rfl rfl hs (fun b4 w hs=>?_)
 refine WL.box (cs:=[.int .i64 rn,.int .i64 rd,.int .i64 rb]) rfl rfl rfl hs (fun b5 w hs=>?_)
 refine wA<|wA<|wZ<|sr<|WL.alloc ty65 rfl hs (fun b8 w hs=>?_)
 refine wZ ?_
 replace hs:=(show Step (List.map (·.1) (L++D)) ((b8,blk 65 [.slice none 0 0])::(b5,blk 30 [.int .i64 rn,.int .i64 rd,.int .i64 rb])::(b4,blk 44 (u8s d))::(b3,blk 39 [pt bp])::(L++D)) w0 w from hs)
 refine CW.seqM (fun f w=>∃b9 b10 b11,Step (List.map (·.1) (L++D)) ((b9,blk 3 [.int .i64 rm.d])::(b10,blk 3 [.int .i64 rm.n])::(b11,blk 3 [.int .i64 rm.b])::(b8,blk 65 [.slice none 0 0])::(b5,blk 30 [.int .i64 rn,.int .i64 rd,.int .i64 rb])::(b4,blk 44 (u8s d))::(b3,blk 39 [pt bp])::(L++D)) w0 w∧Holds f [(3,pt b3),(4,pt b4),(8,pt b8),(9,pt b9),(10,pt b10),(11,pt b11)]) ?_ ?_
 ·skip
  refine CW.any (A:=fun w=>w.heap[b5]?=some (blk 30 [.int .i64 rn,.int .i64 rd,.int .i64 rb])) (C:=fun w=>w.heap[b5]?=some (blk 30 [.int .i64 rn,.int .i64 rd,.int .i64 rb])) 1000000 15 mixedP rfl ?_
  replace hs:=hs.drew
  refine aF 0 rfl 1 u30 rfl ty3 rfl<|aL 1 rfl ty3 rfl (fun w hs=>(At.of_blk hs).cell (j:=1) rfl)<|aV 2 rfl (fun w hs=>run_minZ rfl rfl)<|aF 3 rfl 0 u30 rfl ty3 rfl<|aL 4 rfl ty3 rfl (fun w hs=>(At.of_blk hs).cell (j:=0) rfl)<|aV 5 rfl (fun w hs=>run_minZ rfl rfl)<|aF 6 rfl 2 u30 rfl ty3 rfl<|aL 7 rfl ty3 rfl (fun w hs=>(At.of_blk hs).cell (j:=2) rfl)<|aV 8 rfl (fun w hs=>run_minZ rfl rfl)<|AL.three 9 10 11 (by kernel_rfl) rfl rfl rfl (hs.has (b5,blk 30 [.int .i64 rn,.int .i64 rd,.int .i64 rb]) (by simp)) (hs.has (b5,blk 30 [.int .i64 rn,.int .i64 rd,.int .i64 rb]) (by simp)) ?_ ?_ ?_
  ·refine WL.alloc ty3 rfl hs (fun b9 w hs=>?_)
   refine wZ<|⟨rfl,?_⟩
   refine AL.two 10 11 (by kernel_rfl) rfl rfl (hs.has (b5,blk 30 [.int .i64 rn,.int .i64 rd,.int .i64 rb]) (by simp)) (hs.has (b5,blk 30 [.int .i64 rn,.int .i64 rd,.int .i64 rb]) (by simp)) ?_ ?_
   ·refine WL.alloc ty3 rfl hs (fun b10 w hs=>?_)
    refine wZ<|⟨rfl,?_⟩
    refine AL.one 11 (by kernel_rfl) rfl (hs.has (b5,blk 30 [.int .i64 rn,.int .i64 rd,.int .i64 rb]) (by simp)) (hs.has (b5,blk 30 [.int .i64 rn,.int .i64 rd,.int .i64 rb]) (by simp)) ?_
    refine WL.alloc ty3 rfl hs (fun b11 w hs=>?_)
    refine wZ<|⟨rfl,?_⟩
    refine AL.one 12 (by kernel_rfl) rfl (hs.has (b5,blk 30 [.int .i64 rn,.int .i64 rd,.int .i64 rb]) (by simp)) (hs.has (b5,blk 30 [.int .i64 rn,.int .i64 rd,.int .i64 rb]) (by simp)) ?_
    refine ws1 ty3 rfl rfl (rfl) ((by exact Step.thd hs)) (fun w hs=>?_)
    refine wZ<|⟨rfl,?_⟩
    refine AL.one 13 (by kernel_rfl) rfl (hs.has (b5,blk 30 [.int .i64 rn,.int .i64 rd,.int .i64 rb]) (by simp)) (hs.has (b5,blk 30 [.int .i64 rn,.int .i64 rd,.int .i64 rb]) (by simp)) ?_
    refine ws1 ty3 rfl rfl (rfl) ((by exact Step.thd hs)) (fun w hs=>?_)
    refine wZ<|⟨rfl,?_⟩
    refine AL.one 14 (by kernel_rfl) rfl (hs.has (b5,blk 30 [.int .i64 rn,.int .i64 rd,.int .i64 rb]) (by simp)) (hs.has (b5,blk 30 [.int .i64 rn,.int .i64 rd,.int .i64 rb]) (by simp)) ?_
    refine ws1 ty3 rfl rfl (rfl) ((by exact Step.thd hs)) (fun w hs=>?_)
    refine wZ<|⟨rfl,?_⟩
    refine AL.end (by kernel_rfl) (hs.has (b5,blk 30 [.int .i64 rn,.int .i64 rd,.int .i64 rb]) (by simp)) (hs.has (b5,blk 30 [.int .i64 rn,.int .i64 rd,.int .i64 rb]) (by simp)) ?_
    replace hs:=(show Step (List.map (·.1) (L++D)) ((b11,blk 3 [.int .i64 (minZ rb 67108864)])::(b10,blk 3 [.int .i64 (minZ rn 65536)])::(b9,blk 3 [.int .i64 (minZ rd 32)])::(b8,blk 65 [.slice none 0 0])::(b5,blk 30 [.int .i64 rn,.int .i64 rd,.int .i64 rb])::(b4,blk 44 (u8s d))::(b3,blk 39 [pt bp])::(L++D)) w0 w from hs)
    rw[e1,e2,e3] at hs
    exact⟨rfl,b9,b10,b11,hs.perm (by classical exact perm_iff_count.2 fun x=>by simp only[count_append,count_cons,count_nil];omega),rfl,rfl,rfl,rfl,rfl,rfl,trivial⟩
   ·refine WL.alloc ty3 rfl hs (fun b11 w hs=>?_)
    refine wZ<|⟨rfl,?_⟩
    refine AL.one 10 (by kernel_rfl) rfl (hs.has (b5,blk 30 [.int .i64 rn,.int .i64 rd,.int .i64 rb]) (by simp)) (hs.has (b5,blk 30 [.int .i64 rn,.int .i64 rd,.int .i64 rb]) (by simp)) ?_
    refine WL.alloc ty3 rfl hs (fun b10 w hs=>?_)
    refine wZ<|⟨rfl,?_⟩
    refine AL.one 12 (by kernel_rfl) rfl (hs.has (b5,blk 30 [.int .i64 rn,.int .i64 rd,.int .i64 rb]) (by simp)) (hs.has (b5,blk 30 [.int .i64 rn,.int .i64 rd,.int .i64 rb]) (by simp)) ?_
    refine ws1 ty3 rfl rfl (rfl) ((by exact Step.thd hs)) (fun w hs=>?_)
    refine wZ<|⟨rfl,?_⟩
    refine AL.one 13 (by kernel_rfl) rfl (hs.has (b5,blk 30 [.int .i64 rn,.int .i64 rd,.int .i64 rb]) (by simp)) (hs.has (b5,blk 30 [.int .i64 rn,.int .i64 rd,.int .i64 rb]) (by simp)) ?_
    refine ws1 ty3 rfl rfl (rfl) ((by exact hs.swap)) (fun w hs=>?_)
    refine wZ<|⟨rfl,?_⟩
    refine AL.one 14 (by kernel_rfl) rfl (hs.has (b5,blk 30 [.int .i64 rn,.int .i64 rd,.int .i64 rb]) (by simp)) (hs.has (b5,blk 30 [.int .i64 rn,.int .i64 rd,.int .i64 rb]) (by simp)) ?_
    refine ws1 ty3 rfl rfl (rfl) ((by exact Step.thd hs)) (fun w hs=>?_)
    refine wZ<|⟨rfl,?_⟩
    refine AL.end (by kernel_rfl) (hs.has (b5,blk 30 [.int .i64 rn,.int .i64 rd,.int .i64 rb]) (by simp)) (hs.has (b5,blk 30 [.int .i64 rn,.int .i64 rd,.int .i64 rb]) (by simp)) ?_
    replace hs:=(show Step (List.map (·.1) (L++D)) ((b11,blk 3 [.int .i64 (minZ rb 67108864)])::(b10,blk 3 [.int .i64 (minZ rn 65536)])::(b9,blk 3 [.int .i64 (minZ rd 32)])::(b8,blk 65 [.slice none 0 0])::(b5,blk 30 [.int .i64 rn,.int .i64 rd,.int .i64 rb])::(b4,blk 44 (u8s d))::(b3,blk 39 [pt bp])::(L++D)) w0 w from hs)
    rw[e1,e2,e3] at hs
    exact⟨rfl,b9,b10,b11,hs.perm (by classical exact perm_iff_count.2 fun x=>by simp only[count_append,count_cons,count_nil];omega),rfl,rfl,rfl,rfl,rfl,rfl,trivial⟩
  ·refine WL.alloc ty3 rfl hs (fun b10 w hs=>?_)
   refine wZ<|⟨rfl,?_⟩
   refine AL.two 9 11 (by kernel_rfl) rfl rfl (hs.has (b5,blk 30 [.int .i64 rn,.int .i64 rd,.int .i64 rb]) (by simp)) (hs.has (b5,blk 30 [.int .i64 rn,.int .i64 rd,.int .i64 rb]) (by simp)) ?_ ?_
   ·refine WL.alloc ty3 rfl hs (fun b9 w hs=>?_)
    refine wZ<|⟨rfl,?_⟩
    refine AL.one 11 (by kernel_rfl) rfl (hs.has (b5,blk 30 [.int .i64 rn,.int .i64 rd,.int .i64 rb]) (by simp)) (hs.has (b5,blk 30 [.int .i64 rn,.int .i64 rd,.int .i64 rb]) (by simp)) ?_
    refine WL.alloc ty3 rfl hs (fun b11 w hs=>?_)
    refine wZ<|⟨rfl,?_⟩
    refine AL.one 12 (by kernel_rfl) rfl (hs.has (b5,blk 30 [.int .i64 rn,.int .i64 rd,.int .i64 rb]) (by simp)) (hs.has (b5,blk 30 [.int .i64 rn,.int .i64 rd,.int .i64 rb]) (by simp)) ?_
    refine ws1 ty3 rfl rfl (rfl) ((by exact hs.swap)) (fun w hs=>?_)
    refine wZ<|⟨rfl,?_⟩
    refine AL.one 13 (by kernel_rfl) rfl (hs.has (b5,blk 30 [.int .i64 rn,.int .i64 rd,.int .i64 rb]) (by simp)) (hs.has (b5,blk 30 [.int .i64 rn,.int .i64 rd,.int .i64 rb]) (by simp)) ?_
    refine ws1 ty3 rfl rfl (rfl) ((by exact Step.thd hs)) (fun w hs=>?_)
    refine wZ<|⟨rfl,?_⟩
    refine AL.one 14 (by kernel_rfl) rfl (hs.has (b5,blk 30 [.int .i64 rn,.int .i64 rd,.int .i64 rb]) (by simp)) (hs.has (b5,blk 30 [.int .i64 rn,.int .i64 rd,.int .i64 rb]) (by simp)) ?_
    refine ws1 ty3 rfl rfl (rfl) ((by exact Step.thd hs)) (fun w hs=>?_)
    refine wZ<|⟨rfl,?_⟩
    refine AL.end (by kernel_rfl) (hs.has (b5,blk 30 [.int .i64 rn,.int .i64 rd,.int .i64 rb]) (by simp)) (hs.has (b5,blk 30 [.int .i64 rn,.int .i64 rd,.int .i64 rb]) (by simp)) ?_
    replace hs:=(show Step (List.map (·.1) (L++D)) ((b11,blk 3 [.int .i64 (minZ rb 67108864)])::(b10,blk 3 [.int .i64 (minZ rn 65536)])::(b9,blk 3 [.int .i64 (minZ rd 32)])::(b8,blk 65 [.slice none 0 0])::(b5,blk 30 [.int .i64 rn,.int .i64 rd,.int .i64 rb])::(b4,blk 44 (u8s d))::(b3,blk 39 [pt bp])::(L++D)) w0 w from hs)
    rw[e1,e2,e3] at hs
    exact⟨rfl,b9,b10,b11,hs.perm (by classical exact perm_iff_count.2 fun x=>by simp only[count_append,count_cons,count_nil];omega),rfl,rfl,rfl,rfl,rfl,rfl,trivial⟩
   ·refine WL.alloc ty3 rfl hs (fun b11 w hs=>?_)
    refine wZ<|⟨rfl,?_⟩
    refine AL.one 9 (by kernel_rfl) rfl (hs.has (b5,blk 30 [.int .i64 rn,.int .i64 rd,.int .i64 rb]) (by simp)) (hs.has (b5,blk 30 [.int .i64 rn,.int .i64 rd,.int .i64 rb]) (by simp)) ?_
    refine WL.alloc ty3 rfl hs (fun b9 w hs=>?_)
    refine wZ<|⟨rfl,?_⟩
    refine AL.one 12 (by kernel_rfl) rfl (hs.has (b5,blk 30 [.int .i64 rn,.int .i64 rd,.int .i64 rb]) (by simp)) (hs.has (b5,blk 30 [.int .i64 rn,.int .i64 rd,.int .i64 rb]) (by simp)) ?_
    refine ws1 ty3 rfl rfl (rfl) ((by exact hs)) (fun w hs=>?_)
    refine wZ<|⟨rfl,?_⟩
    refine AL.one 13 (by kernel_rfl) rfl (hs.has (b5,blk 30 [.int .i64 rn,.int .i64 rd,.int .i64 rb]) (by simp)) (hs.has (b5,blk 30 [.int .i64 rn,.int .i64 rd,.int .i64 rb]) (by simp)) ?_
    refine ws1 ty3 rfl rfl (rfl) ((by exact Step.thd hs)) (fun w hs=>?_)
    refine wZ<|⟨rfl,?_⟩
    refine AL.one 14 (by kernel_rfl) rfl (hs.has (b5,blk 30 [.int .i64 rn,.int .i64 rd,.int .i64 rb]) (by simp)) (hs.has (b5,blk 30 [.int .i64 rn,.int .i64 rd,.int .i64 rb]) (by simp)) ?_
    refine ws1 ty3 rfl rfl (rfl) ((by exact Step.thd hs)) (fun w hs=>?_)
    refine wZ<|⟨rfl,?_⟩
    refine AL.end (by kernel_rfl) (hs.has (b5,blk 30 [.int .i64 rn,.int .i64 rd,.int .i64 rb]) (by simp)) (hs.has (b5,blk 30 [.int .i64 rn,.int .i64 rd,.int .i64 rb]) (by simp)) ?_
    replace hs:=(show Step (List.map (·.1) (L++D)) ((b11,blk 3 [.int .i64 (minZ rb 67108864)])::(b10,blk 3 [.int .i64 (minZ rn 65536)])::(b9,blk 3 [.int .i64 (minZ rd 32)])::(b8,blk 65 [.slice none 0 0])::(b5,blk 30 [.int .i64 rn,.int .i64 rd,.int .i64 rb])::(b4,blk 44 (u8s d))::(b3,blk 39 [pt bp])::(L++D)) w0 w from hs)
    rw[e1,e2,e3] at hs
    exact⟨rfl,b9,b10,b11,hs.perm (by classical exact perm_iff_count.2 fun x=>by simp only[count_append,count_cons,count_nil];omega),rfl,rfl,rfl,rfl,rfl,rfl,trivial⟩
  ·refine WL.alloc ty3 rfl hs (fun b11 w hs=>?_)
   refine wZ<|⟨rfl,?_⟩
   refine AL.two 9 10 (by kernel_rfl) rfl rfl (hs.has (b5,blk 30 [.int .i64 rn,.int .i64 rd,.int .i64 rb]) (by simp)) (hs.has (b5,blk 30 [.int .i64 rn,.int .i64 rd,.int .i64 rb]) (by simp)) ?_ ?_
   ·refine WL.alloc ty3 rfl hs (fun b9 w hs=>?_)
    refine wZ<|⟨rfl,?_⟩
    refine AL.one 10 (by kernel_rfl) rfl (hs.has (b5,blk 30 [.int .i64 rn,.int .i64 rd,.int .i64 rb]) (by simp)) (hs.has (b5,blk 30 [.int .i64 rn,.int .i64 rd,.int .i64 rb]) (by simp)) ?_
    refine WL.alloc ty3 rfl hs (fun b10 w hs=>?_)
    refine wZ<|⟨rfl,?_⟩
    refine AL.one 12 (by kernel_rfl) rfl (hs.has (b5,blk 30 [.int .i64 rn,.int .i64 rd,.int .i64 rb]) (by simp)) (hs.has (b5,blk 30 [.int .i64 rn,.int .i64 rd,.int .i64 rb]) (by simp)) ?_
    refine ws1 ty3 rfl rfl (rfl) ((by exact hs.swap)) (fun w hs=>?_)
    refine wZ<|⟨rfl,?_⟩
    refine AL.one 13 (by kernel_rfl) rfl (hs.has (b5,blk 30 [.int .i64 rn,.int .i64 rd,.int .i64 rb]) (by simp)) (hs.has (b5,blk 30 [.int .i64 rn,.int .i64 rd,.int .i64 rb]) (by simp)) ?_
    refine ws1 ty3 rfl rfl (rfl) ((by exact hs.swap)) (fun w hs=>?_)
    refine wZ<|⟨rfl,?_⟩
    refine AL.one 14 (by kernel_rfl) rfl (hs.has (b5,blk 30 [.int .i64 rn,.int .i64 rd,.int .i64 rb]) (by simp)) (hs.has (b5,blk 30 [.int .i64 rn,.int .i64 rd,.int .i64 rb]) (by simp)) ?_
    refine ws1 ty3 rfl rfl (rfl) ((by exact Step.thd hs)) (fun w hs=>?_)
    refine wZ<|⟨rfl,?_⟩
    refine AL.end (by kernel_rfl) (hs.has (b5,blk 30 [.int .i64 rn,.int .i64 rd,.int .i64 rb]) (by simp)) (hs.has (b5,blk 30 [.int .i64 rn,.int .i64 rd,.int .i64 rb]) (by simp)) ?_
    replace hs:=(show Step (List.map (·.1) (L++D)) ((b11,blk 3 [.int .i64 (minZ rb 67108864)])::(b10,blk 3 [.int .i64 (minZ rn 65536)])::(b9,blk 3 [.int .i64 (minZ rd 32)])::(b8,blk 65 [.slice none 0 0])::(b5,blk 30 [.int .i64 rn,.int .i64 rd,.int .i64 rb])::(b4,blk 44 (u8s d))::(b3,blk 39 [pt bp])::(L++D)) w0 w from hs)
    rw[e1,e2,e3] at hs
    exact⟨rfl,b9,b10,b11,hs.perm (by classical exact perm_iff_count.2 fun x=>by simp only[count_append,count_cons,count_nil];omega),rfl,rfl,rfl,rfl,rfl,rfl,trivial⟩
   ·refine WL.alloc ty3 rfl hs (fun b10 w hs=>?_)
    refine wZ<|⟨rfl,?_⟩
    refine AL.one 9 (by kernel_rfl) rfl (hs.has (b5,blk 30 [.int .i64 rn,.int .i64 rd,.int .i64 rb]) (by simp)) (hs.has (b5,blk 30 [.int .i64 rn,.int .i64 rd,.int .i64 rb]) (by simp)) ?_
    refine WL.alloc ty3 rfl hs (fun b9 w hs=>?_)
    refine wZ<|⟨rfl,?_⟩
    refine AL.one 12 (by kernel_rfl) rfl (hs.has (b5,blk 30 [.int .i64 rn,.int .i64 rd,.int .i64 rb]) (by simp)) (hs.has (b5,blk 30 [.int .i64 rn,.int .i64 rd,.int .i64 rb]) (by simp)) ?_
    refine ws1 ty3 rfl rfl (rfl) ((by exact hs)) (fun w hs=>?_)
    refine wZ<|⟨rfl,?_⟩
    refine AL.one 13 (by kernel_rfl) rfl (hs.has (b5,blk 30 [.int .i64 rn,.int .i64 rd,.int .i64 rb]) (by simp)) (hs.has (b5,blk 30 [.int .i64 rn,.int .i64 rd,.int .i64 rb]) (by simp)) ?_
    refine ws1 ty3 rfl rfl (rfl) ((by exact hs.swap)) (fun w hs=>?_)
    refine wZ<|⟨rfl,?_⟩
    refine AL.one 14 (by kernel_rfl) rfl (hs.has (b5,blk 30 [.int .i64 rn,.int .i64 rd,.int .i64 rb]) (by simp)) (hs.has (b5,blk 30 [.int .i64 rn,.int .i64 rd,.int .i64 rb]) (by simp)) ?_
    refine ws1 ty3 rfl rfl (rfl) ((by exact Step.thd hs)) (fun w hs=>?_)
    refine wZ<|⟨rfl,?_⟩
    refine AL.end (by kernel_rfl) (hs.has (b5,blk 30 [.int .i64 rn,.int .i64 rd,.int .i64 rb]) (by simp)) (hs.has (b5,blk 30 [.int .i64 rn,.int .i64 rd,.int .i64 rb]) (by simp)) ?_
    replace hs:=(show Step (List.map (·.1) (L++D)) ((b11,blk 3 [.int .i64 (minZ rb 67108864)])::(b10,blk 3 [.int .i64 (minZ rn 65536)])::(b9,blk 3 [.int .i64 (minZ rd 32)])::(b8,blk 65 [.slice none 0 0])::(b5,blk 30 [.int .i64 rn,.int .i64 rd,.int .i64 rb])::(b4,blk 44 (u8s d))::(b3,blk 39 [pt bp])::(L++D)) w0 w from hs)
    rw[e1,e2,e3] at hs
    exact⟨rfl,b9,b10,b11,hs.perm (by classical exact perm_iff_count.2 fun x=>by simp only[count_append,count_cons,count_nil];omega),rfl,rfl,rfl,rfl,rfl,rfl,trivial⟩
 clear hs
 rintro f w ⟨b9,b10,b11,hs,hf⟩
 have ob:=hf.chain
 obtain⟨g,rfl⟩:=ob
 refine sr<|wV (run_makeFuncC rfl)<|WL.alloc ty150 rfl hs (fun b12 w hs=>?_)
 refine ws1 ty150 rfl rfl (rfl) hs (fun w hs=>?_)
 refine wZ<|sr<|WL.alloc ty151 rfl hs (fun b13 w hs=>?_)
 refine wZ<|sr<|wV (run_makeFuncC rfl)<|ws1 ty151 rfl rfl (rfl) hs (fun w hs=>?_)
 refine wZ ?_
 have ob:∃K,[(b3,blk 39 [pt bp]),(b9,blk 3 [.int .i64 rm.d]),(b12,blk 150 [.func (.func 75) #[] #[pt b9,pt b10,pt b3]]),(b13,blk 151 [.func (.func 77) #[] #[pt b12,pt b8,pt b13,pt b11]])]=K:=⟨_,rfl⟩
 obtain⟨K,hK0⟩:=ob
 have hK:LdK b3 b8 b9 b10 b11 b12 b13 bp rm (K++D):=by rw[←hK0];exact⟨by simp,by simp,by simp,by simp⟩
 replace hs:Step (List.map (·.1) (L++D)) ([(b5,blk 30 [.int .i64 rn,.int .i64 rd,.int .i64 rb]),(b4,blk 44 (u8s d))]++(((b8,blk 65 [.slice none 0 0])::(b10,blk 3 [.int .i64 rm.n])::(b11,blk 3 [.int .i64 rm.b])::([]:OL))++(L++(K++D)))) w0 w:=by
  rw[←hK0]
  exact(show Step (List.map (·.1) (L++D)) ((b13,blk 151 [.func (.func 77) #[] #[pt b12,pt b8,pt b13,pt b11]])::(b12,blk 150 [.func (.func 75) #[] #[pt b9,pt b10,pt b3]])::(b9,blk 3 [.int .i64 rm.d])::(b10,blk 3 [.int .i64 rm.n])::(b11,blk 3 [.int .i64 rm.b])::(b8,blk 65 [.slice none 0 0])::(b5,blk 30 [.int .i64 rn,.int .i64 rd,.int .i64 rb])::(b4,blk 44 (u8s d))::(b3,blk 39 [pt bp])::(L++D)) w0 w from hs).perm (by classical exact perm_iff_count.2 fun x=>by simp only[count_append,count_cons,count_nil];omega)
 have hW0:LdW b8 b10 b11 rm ws0 (K++D) ((b8,blk 65 [.slice none 0 0])::(b10,blk 3 [.int .i64 rm.n])::(b11,blk 3 [.int .i64 rm.b])::([]:OL)):=⟨.slice none 0 0,[],[],by rw[show rm.n - ((ws0.n:Nat):Int)=rm.n by show rm.n - ((0:Nat):Int)=rm.n;omega,show rm.b - ((ws0.b:Nat):Int)=rm.b by show rm.b - ((0:Nat):Int)=rm.b;omega],OwnSl.nil _ _,rfl,fun u hu=>by cases hu⟩
 have hwk:=fun{w1:World} h=>ldw_spec (w0:=w1) (x:=rootS d) (t:=ws0) ok hrm hfew hN 34 rfl rfl hd (by simp[rootS]) (ws0_good.mono (by omega)) hK hW0 (hR.mono mem_right) h
 have ob:∃r,standP s rm 34 (rootS d) ws0=r:=⟨_,rfl⟩
 obtain⟨r,hr⟩:=ob
 rw[hr] at hwk⊢
 have h13:(b13,blk 151 [.func (.func 77) #[] #[pt b12,pt b8,pt b13,pt b11]])∈K++D:=hK.m13
 refine cq<|sr<|wl ty151 rfl ((Step.inD (A:=[_,_]) (W:=_::_::_::[]) hs h13 rfl))<|wR ty44 rfl hdl hs.a1<|wE rfl (run_callV (cap:=[pt b12,pt b8,pt b13,pt b11]) en77 rfl rfl) (hwk (Lives.mk hs.tail.tail)) ?_
 rintro e w ⟨W1,L1,D1,rfl,hW1,hP1,hq⟩
 refine⟨_,rfl,?_⟩
 replace hs:=Step.wput (A:=[_,_]) (W:=_::_::_::[]) hs hq
 refine wA<|wZ ?_
 by_cases he:r.1≠0
 ·refine sr<|wm<|wV (run_bT (run_neq rfl rfl) (by exact he))<|wZ<|CW.cond rfl (fun h=>?_) (fun h=>?_)
  ·refine sr<|wm<|wA<|wA<|wZ<|CW.ret ?_
   refine fin_ret2 rfl ?_
   exact⟨_,[],[],L1,D1++K,rfl,by rw[append_assoc];exact hP1,OwnSl.nil _ _,(fun h=>absurd h he),(fun _=>rfl),(fun u hu=>by cases hu),Step.fin (M:=[]) hw (by rw[append_assoc];exact Step.dropL (L1:=W1) hs.tail.tail)⟩
  ·cases h
 have he0:r.1=0:=by simpa using he
 have ob:=hW1 he0
 obtain⟨vL,LL,T,rfl,hvL,hT,hTD⟩:=ob
 have hTl:T.length=r.2.l.length:=by rw[←hT,length_map]
 have ob:=hvL.form
 obtain⟨la,lc,rfl⟩:=ob
 refine sr<|wm<|wV (run_bF (run_neq rfl rfl) (by exact he))<|wZ<|CW.cond rfl (fun h=>?_) (fun h=>?_)
 ·cases h
 replace hs:=hs.tail.tail
 refine ck<|sr<|wl ty65 rfl (hs.c0 (v:=.slice la r.2.l.length lc) rfl)<|wA<|wA<|wZ<|CW.ret ?_
 refine fin_ret2 rfl ?_
 exact⟨_,T,LL,L1,D1++K,congrArg (fun z=>Ending.returned (.tuple #[.slice la r.2.l.length lc,.int .i64 z])) he0.symm,by rw[append_assoc];exact hP1,by rw[hTl];exact hvL,(fun _=>hT),(fun h=>absurd he0 h),(fun u hu=>by rw[append_assoc];exact hTD u hu),Step.fin (M:=LL) hw (by rw[append_assoc];exact hs.tail.tail.tail)⟩
end
end Go.Gx
namespace Go.Gx
open Go.Proofs List
attribute [local irreducible] shaL cutD frontL decL decE
abbrev MLe (t u:WS):Prop:=∀p∈t.m,p∈u.m
theorem push_mle (x:Std) (t:WS):MLe t (push x t):=by
 intro p hp
 rw[push_m];exact hp
section
variable {s s':AS}{rm:Rm}
theorem visit_mle (x:Std) (t:WS):MLe t (visit s rm x t).2.2:=by
 unfold visit
 split
 ·exact fun _ h=>h
 ·split
  ·exact fun _ h=>h
  ·split
   ·exact fun _ h=>mem_append_left _ h
   ·split
    ·split
     ·exact fun _ h=>mem_append_left _ h
     ·exact fun _ h=>mem_append_left _ h
    ·split
     ·exact fun _ h=>mem_append_left _ h
     ·exact fun _ h=>mem_append_left _ h
theorem seqS_mle{f:Std→WS→Int×WS} (hf:∀x t,MLe t (f x t).2):∀(l:List Std) (t:WS),MLe t (seqS f l t).2
 | [],t=>fun _ h=>h
 | x::l,t=>by
  rw[seqS]
  split
  ·exact hf x t
  ·exact fun p hp=>seqS_mle hf l _ p (hf x t p hp)
theorem standP_mle:∀(n:Nat) (x:Std) (t:WS),MLe t (standP s rm n x t).2
 | 0,x,t=>fun _ h=>h
 | n+1,x,t=>by
  rw[standP]
  split
  ·exact visit_mle x t
  ·exact fun p hp=>seqS_mle (fun y u p hp=>standP_mle n y (push y u) p (push_mle y u p hp)) _ _ p (visit_mle x t p hp)
theorem visit_met{x:Std}{t:WS} (h:(visit s rm x t).1=0):(x.d,x.dir)∈(visit s rm x t).2.2.m:=by
 by_cases c1:rm.d<x.dep
 ·rw[visit,if_pos c1] at h;cases h
 by_cases c2:rm.n<(t.n:Int)+1
 ·rw[visit,if_neg c1,if_pos c2] at h;cases h
 have hm:∀u:WS,u.m=t.m++[(x.d,x.dir)]→(x.d,x.dir)∈u.m:=fun u h=>by rw[h];simp
 rw[visit,if_neg c1,if_neg c2]
 split
 ·exact hm _ rfl
 ·split
  ·split
   ·exact hm _ rfl
   ·exact hm _ rfl
  ·split
   ·exact hm _ rfl
   ·exact hm _ rfl
theorem visit_same{x:Std}{t:WS} (h:s'.get x.d=s.get x.d):visit s' rm x t=visit s rm x t:=by
 unfold visit
 rw[h]
theorem seqS_same {f f':Std→WS→Int×WS}{T:WS} (hf:∀x t,MLe t (f x t).2):∀(l:List Std) (t:WS),(∀y∈l,∀u,(f y u).1=0→MLe (f y u).2 T→f' y u=f y u)→(seqS f l t).1=0→MLe (seqS f l t).2 T→seqS f' l t=seqS f l t
 | [],t,_,_,_=>rfl
 | y::l,t,h,h0,hT=>by
  by_cases c:(f y t).1≠0
  ·rw[seqS,if_pos c] at h0
   exact absurd h0 c
  rw[seqS,if_neg c] at h0 hT
  have hp:=seqS_mle hf l (f y t).2
  have e:=h y (by simp) t (by simpa using c) (fun p hq=>hT p (hp p hq))
  rw[seqS,seqS,e,if_neg c,if_neg c]
  exact seqS_same hf l _ (fun z hz=>h z (by simp[hz])) h0 hT
theorem standP_same{T:WS} (hg:∀p∈T.m,s'.get p.1=s.get p.1):∀(n:Nat) (x:Std) (t:WS),(standP s rm n x t).1=0→MLe (standP s rm n x t).2 T→standP s' rm n x t=standP s rm n x t
 | 0,x,t,h,_=>by rw[standP] at h;cases h
 | n+1,x,t,h,hT=>by
  have hv:(visit s rm x t).1=0:=by
   by_cases c:(visit s rm x t).1=0
   ·exact c
   ·rw[standP,if_pos c] at h
    exact absurd h c
  rw[standP,if_neg (fun k=>k hv)] at h hT
  have hp:=seqS_mle (fun y u p hp=>standP_mle (s:=s) (rm:=rm) n y (push y u) p (push_mle y u p hp)) (visit s rm x t).2.1 (visit s rm x t).2.2
  have e:=visit_same (s:=s) (s':=s') (rm:=rm) (x:=x) (t:=t) (hg _ (hT _ (hp _ (visit_met hv))))
  rw[standP,standP,e,if_neg (fun k=>k hv),if_neg (fun k=>k hv)]
  exact seqS_same (fun y u p hp=>standP_mle n y (push y u) p (push_mle y u p hp)) _ _ (fun y hy u h1 h2=>standP_same hg n y (push y u) h1 h2) h hT
theorem runs_same{d:U8} (h:(runs s rm [rootS d] ws0).1=0) (hg:∀p∈(runs s rm [rootS d] ws0).2.m,s'.get p.1=s.get p.1):runs s' rm [rootS d] ws0=runs s rm [rootS d] ws0:=by
 rw[runs_root,runs_root] at *
 exact standP_same hg 34 _ _ h fun _ h=>h
end
theorem findX_del' {d e:U8} (h:d≠e) (X:List Blb):findX d (delX e X)=findX d X:=findX_del h X
end Go.Gx
namespace Go.Gx
open Go.Proofs List
attribute [local irreducible] shaL cutD frontL
theorem hasL8_spec{v:Value}{l:List (List UInt8)}{d:U8}{w0:World} (hv:Dgs w0 v l) (hd:d.length=32):CP 32 #[v,.agg (u8s d).toArray] w0 (Ret0 (.bool (decide (d∈l))) w0):=by
 have hs:Step [] [] w0 w0:=Step.refl w0
 have hdl:(u8s d).length=32:=by rw[u8s,length_map,hd]
 have ob:=hv.form
 obtain⟨a,c,rfl⟩:=ob
 have hsm:=hv.small
 have ob:∃r,decide (d∈l)=r:=⟨_,rfl⟩
 obtain⟨r,hr⟩:=ob
 rw[hr]
 refine calls (n:=18) Tryz.func32 rfl rfl rfl ?_
 refine sr<|WL.box (cs:=u8s d) rfl rfl rfl hs (fun b3 w hs=>?_)
 refine wA<|wZ<|cq<|sr<|wA<|wZ<|cB<|CW.loop (fun m f w'=>∃i,i≤l.length∧m=l.length - i∧d∉l.take i∧Step [] [(b3,blk 44 (u8s d))] w0 w'∧Holds f [(0,.slice a l.length c),(3,pt b3),(5,.int .i64 (i:Nat))]) (m:=l.length) ?_ ?_
 ·exact⟨0,Nat.zero_le _,rfl,by simp,hs,rfl,rfl,rfl,trivial⟩
 ·rintro m f w ⟨i,hi,rfl,hno,hs,hf⟩
  have ob:=hf.chain
  obtain⟨g,rfl⟩:=ob
  by_cases hlt:i<l.length
  ·have ob:∃e,l[i]?=some e:=⟨_,getElem?_eq_getElem hlt⟩
   obtain⟨e,he⟩:=ob
   have ob:=hv.at he
   obtain⟨b,off,c',hb,hat⟩:=ob
   cases hb
   have hel:=hv.len e (mem_of_getElem? he)
   have hel2:(u8s e).length=32:=by rw[u8s,length_map,hel]
   have htk:l.take (i+1)=l.take i++[e]:=by rw[take_add_one,he];rfl
   refine cq<|sr<|wm<|wm<|wL u35 rfl<|lT<|wZ<|CW.cond rfl (fun h=>?_) (fun h=>?_)
   ·by_cases hed:e=d
    ·refine ck<|cq<|cB<|cq<|CW.quiet mixedP (by kernel_rfl) hs ?_
     refine qm<|qm<|qI u35 ty44 rfl rfl<|qV (fun w hs=>run_loadN ty44 rfl hel2 (hat.step hs.clear (by simp)))<|qV (fun w hs=>run_loadN ty44 rfl hdl hs.a0)<|qV (fun w hs=>run_bT (run_eqDig hel hd rfl rfl) hed)<|QL.nil (fun w hs=>?_)
     refine CW.cond rfl (fun h=>?_) (fun h=>?_)
     ·refine sr<|wA<|wZ<|CW.ret ?_
      refine fin_ret1 rfl ?_
      have hm:d∈l:=hed▸mem_of_getElem? he
      exact⟨congrArg (fun b=>Ending.returned (.bool b)) (by rw[←hr];simp[hm]),hs.clear⟩
     ·cases h
    ·refine ck<|cq<|cB<|cq<|CW.quiet mixedP (by kernel_rfl) hs ?_
     refine qm<|qm<|qI u35 ty44 rfl rfl<|qV (fun w hs=>run_loadN ty44 rfl hel2 (hat.step hs.clear (by simp)))<|qV (fun w hs=>run_loadN ty44 rfl hdl hs.a0)<|qV (fun w hs=>run_bF (run_eqDig hel hd rfl rfl) hed)<|QL.nil (fun w hs=>?_)
     refine CW.cond rfl (fun h=>?_) (fun h=>?_)
     ·cases h
     refine ck<|cr<|wm<|wP ((i+1:Nat):Int)<|wA<|wZ<|(show _∧_ from⟨rfl,_,?_,i+1,hlt,rfl,?_,hs,rfl,rfl,rfl,trivial⟩)
     ·omega
     ·rw[htk,mem_append,mem_singleton]
      exact fun h=>h.elim hno (fun h=>hed h.symm)
   ·cases h
  ·obtain rfl:i=l.length:=by omega
   rw[take_length] at hno
   refine cq<|sr<|wm<|wm<|wL u35 rfl<|lF<|wZ<|CW.cond rfl (fun h=>?_) (fun h=>?_)
   ·cases h
   refine CW.exit<|sr<|wA<|wZ<|CW.ret ?_
   refine fin_ret1 rfl ?_
   exact⟨congrArg (fun b=>Ending.returned (.bool b)) (by rw[←hr];simp[hno]),hs.clear⟩
section
variable{P:Program}{f:Slots}{w:World}{d:Option Tmp}{ty:TypeId}{pos:String}{af:Array Edge}{x y:Operand}{T T':TypeId}
theorem run_neSelf{b:Bool} (ht:P.underlying T=some .bool) (hx:ev f x=.bool b) (hy:ev f y=.bool b):(execOp (ev f) ⟨d,.binOp .neq T x y T',ty,pos,af,none⟩).run P w=.ok (.value (.bool false)) w:=by
 have h:=run_neqB (d:=d) (ty:=ty) (pos:=pos) (af:=af) (T':=T') (w:=w) ht hx hy
 rw[h]
 cases b <;> rfl
end
theorem rowsSl{w:World}{u:Value}{T:List (WI×Value)} (h:Sl w 3 u T.length (rowsW T)) (hl:0<T.length):∃b off c,u=.slice (some ⟨b,off,none⟩) T.length c∧At w b off (rowsW T):=by
 obtain⟨_,⟨_,_,h1,h2⟩ | ⟨b,off,c,h1,h2⟩⟩:=h
 ·omega
 ·exact⟨b,off,c,h1,h2⟩
set_option maxHeartbeats 4000000 in
theorem sameIt_spec{u v:Value}{T T':List (WI×Value)} (w0:World) (hu:Sl w0 3 u T.length (rowsW T)) (hv:Sl w0 3 v T'.length (rowsW T')) (hT:T.map (·.1)=T'.map (·.1)) (hd:∀t∈T,Sl w0 1 t.2 t.1.x.length (u8s t.1.x)) (hd':∀t∈T',Sl w0 1 t.2 t.1.x.length (u8s t.1.x)) (hlen:T.length<1099511627776) :
  CP 30 #[u,v] w0 (Ret0 (.bool true) w0):=by
 have hs:Step [] [] w0 w0:=Step.refl w0
 have hTl:T.length=T'.length:=by have h:=congrArg List.length hT;rwa [length_map,length_map] at h
 have hu0:=hu
 have hv0:=hv
 have ob:=hu.form
 obtain⟨ua,uc,rfl⟩:=ob
 have ob:=hv.form
 obtain⟨va,vc,rfl⟩:=ob
 refine calls (n:=56) Tryz.func30 rfl rfl rfl ?_
 refine sr<|wA<|wZ<|cq<|sr<|wm<|wL u65 rfl<|wm<|wL u65 rfl<|nF<|wZ<|CW.cond rfl (fun h=>?_) (fun h=>?_)
 ·cases h
 refine ck<|cq<|sr<|wA<|wZ<|cB<|CW.loop (fun z f w'=>∃i,i≤T.length∧z=T.length - i∧Step [] [] w0 w'∧Holds f [(0,.slice ua T.length uc),(1,.slice va T'.length vc),(5,.int .i64 (i:Nat))]) (m:=T.length) ?_ ?_
 ·exact⟨0,Nat.zero_le _,rfl,hs,rfl,rfl,rfl,trivial⟩
 clear hs
 rintro z f w ⟨i,hi,rfl,hs,hf⟩
 by_cases hlt:i<T.length
 ·have ob:∃t,T[i]?=some t:=⟨_,getElem?_eq_getElem hlt⟩
  obtain⟨t,ht⟩:=ob
  have ob:∃t',T'[i]?=some t':=⟨_,getElem?_eq_getElem (by omega)⟩
  obtain⟨t',ht'⟩:=ob
  have he:t.1=t'.1:=by
   have h1:(T.map (·.1))[i]?=some t.1:=by rw[getElem?_map,ht];rfl
   have h2:(T'.map (·.1))[i]?=some t'.1:=by rw[getElem?_map,ht'];rfl
   rw[hT,h2] at h1
   exact(Option.some.inj h1).symm
  have ob:=rowsSl hu0 (by omega)
  obtain⟨bu,ou,cu,hue,hua⟩:=ob
  have ob:=rowsSl hv0 (by omega)
  obtain⟨bv,ov,cv,hve,hva⟩:=ob
  rw[hue,hve] at hf
  have ob:=hf.chain
  obtain⟨g,rfl⟩:=ob
  have hr:=rowsW_at hua ht
  have hr':=rowsW_at hva ht'
  have h1:=hd t (mem_of_getElem? ht)
  have h2:=hd' t' (mem_of_getElem? ht')
  obtain⟨⟨p,dir,y⟩,v1⟩:=t
  obtain⟨i2,v2⟩:=t'
  obtain rfl:(⟨p,dir,y⟩:WI)=i2:=he
  refine cq<|sr<|wm<|wm<|wL u65 rfl<|lT<|wZ<|CW.cond rfl (fun h=>?_) (fun h=>?_)
  ·refine ck<|cq<|cB<|cq<|CW.quiet mixedP (by kernel_rfl) hs ?_
   refine qm<|qm<|qI u65 ty155 rfl rfl<|qF 0 u155 rfl ty9 rfl<|qL ty9 rfl (fun w hs=>(hr.step hs (by simp)).cell (j:=0) rfl)<|qm<|qm<|qI u65 ty155 rfl rfl<|qF 0 u155 rfl ty9 rfl<|qL ty9 rfl (fun w hs=>(hr'.step hs (by simp)).cell (j:=0) rfl)<|qV (fun w hs=>run_bF (run_strNe rfl rfl) (by exact fun h=>h rfl))<|qm<|qy<|qm ?_
   refine qy<|qm ?_
   refine qy ?_;(first | refine QL.val rfl (fun w hs=>run_ixSlN u65 ty155 rfl rfl (by omega)) ?_ | refine QL.val rfl (fun w hs=>run_ixSl u65 ty155 rfl rfl (by omega)) ?_)
   refine qy<|qF 1 u155 rfl ty4 rfl<|qy<|qL ty4 rfl (fun w hs=>(hr.step hs (by simp)).cell (j:=1) rfl)<|qy<|qm<|qy<|qm ?_
   refine qy ?_;(first | refine QL.val rfl (fun w hs=>run_ixSlN u65 ty155 rfl rfl (by omega)) ?_ | refine QL.val rfl (fun w hs=>run_ixSl u65 ty155 rfl rfl (by omega)) ?_)
   refine qy<|qF 1 u155 rfl ty4 rfl<|qy<|qL ty4 rfl (fun w hs=>(hr'.step hs (by simp)).cell (j:=1) rfl)<|qy<|qV (fun w hs=>run_neSelf u4 rfl rfl)<|qP<|qm<|qy<|qm<|qy<|qm ?_
   refine qy ?_;(first | refine QL.val rfl (fun w hs=>run_ixSlN u65 ty155 rfl rfl (by omega)) ?_ | refine QL.val rfl (fun w hs=>run_ixSl u65 ty155 rfl rfl (by omega)) ?_)
   refine qy<|qF 2 u155 rfl ty76 rfl<|qy<|qL ty76 rfl (fun w hs=>(hr.step hs (by simp)).cell (j:=2) rfl)<|qy<|qV (fun w hs=>run_toString u76 u9 u5 rfl (h1.step0 hs))<|qy<|qm<|qy<|qm ?_
   refine qy ?_;(first | refine QL.val rfl (fun w hs=>run_ixSlN u65 ty155 rfl rfl (by omega)) ?_ | refine QL.val rfl (fun w hs=>run_ixSl u65 ty155 rfl rfl (by omega)) ?_)
   refine qy<|qF 2 u155 rfl ty76 rfl<|qy<|qL ty76 rfl (fun w hs=>(hr'.step hs (by simp)).cell (j:=2) rfl)<|qy<|qV (fun w hs=>run_toString u76 u9 u5 rfl (h2.step0 hs))<|qy<|qV (fun w hs=>run_bF (run_strNe rfl rfl) (by exact fun h=>h rfl))<|qP<|QL.nil (fun w hs=>?_)
   refine CW.cond rfl (fun h=>?_) (fun h=>?_)
   ·cases h
   refine ck<|cr<|wm<|wP ((i+1:Nat):Int)<|wA<|wZ<|(show _∧_ from⟨rfl,_,?_,i+1,hlt,rfl,hs,hue.symm,hve.symm,rfl,trivial⟩)
   omega
  ·cases h
 ·have ob:=hf.chain
  obtain⟨g,rfl⟩:=ob
  obtain rfl:i=T.length:=by omega
  refine cq<|sr<|wm<|wm<|wL u65 rfl<|lF<|wZ<|CW.cond rfl (fun h=>?_) (fun h=>?_)
  ·cases h
  refine CW.exit<|sr<|wA<|wZ<|CW.ret ?_
  refine fin_ret1 rfl ?_
  exact⟨rfl,hs⟩
end Go.Gx
namespace Go.Gx
open Go.Proofs Go.RowKit List
attribute [local irreducible] shaL cutD frontL
section
variable{α:Type}{a b c e:α}{A B C D Y Z M:List α}
end
def HeldR (D:(List (Nat×Obj))) (v:Value) (T:List (WI×Value)):Prop:=(∃Lt,OwnSl 155 3 v T.length (rowsW T) Lt∧∀p∈Lt,p∈D)∧∀u∈T,Held D u.2 u.1.x
def Trees (s:AS) (D:(List (Nat×Obj))) (ds:List (List UInt8)) (B:List (Value×List (WI×Value))):Prop:=B.length=ds.length∧∀(j:Nat) (t:Value×List (WI×Value)) (d:(List UInt8)),B[j]?=some t→ds[j]?=some d→t.2.map (·.1)=(runs s rmG [rootS d] ws0).2.l∧HeldR D t.1 t.2
section
variable{wd:Int}{x:Stup}{v:Value}{l:List Int}
end
end Go.Gx
namespace Go.Gx
open Go.Proofs List
def blbsP (bs:(List UInt8)):Nat→Nat→Except Int (List (List UInt8)×Nat)
 | 0,p=>.ok ([],p)
 | n+1,p=>
  match bytesP bs p with
  | .error e=>.error e
  | .ok (x,q)=>if 1048576<x.length then .error 2 else
   match blbsP bs n q with
   | .error e=>.error e
   | .ok (l,r)=>.ok (x::l,r)
def pkP (k:Nat) (bs:(List UInt8)):Except Int (List (List UInt8)×Nat):=
 match numP bs 0 with
 | .error e=>.error e
 | .ok (t,p)=>if t=5 then
   match numP bs p with
   | .error e=>.error e
   | .ok (u,p2)=>if u=k then
     match numP bs p2 with
     | .error e=>.error e
     | .ok (n,q)=>if n=0∨65536<n then .error 81 else blbsP bs n q
    else .error 3
  else .error 52
def preB (l:List (List UInt8)):Except Int (List (List UInt8)×Nat)→Except Int (List (List UInt8)×Nat)
 | .error e=>.error e
 | .ok (m,q)=>.ok (l++m,q)
def UpR (b bl bk k:Nat) (bv:Value) (w0:World):Except Int (List (List UInt8)×Nat)→Ending→World→Prop
 | .ok (l,q),e,w'=>∃v B Lv LD,e=.returned (.tuple #[])∧B.map (·.2)=l∧OwnSl 76 1 v B.length (cellsB B) Lv∧BOk LD B∧Step [b,bl,bk] (RdB b bv q::(bl,blk 24 [v])::(bk,blk 3 [.int .i64 (k:Nat)])::(Lv++LD)) w0 w'
 | .error er,e,w'=>∃p v Lv,e=.panicked (pch b)∧v.oneCell'=true∧Step [b,bl,bk] (RF b bv p er::(bl,blk 24 [v])::(bk,blk 3 [.int .i64 (k:Nat)])::Lv) w0 w'
def upP (k:Nat) (bs:(List UInt8)):Int×List (List UInt8):=match pkP k bs with
 | .error e=>(e,[])
 | .ok (l,q)=>if q<bs.length then (13,[]) else (0,l)
def UrR (bl bk k:Nat) (bs:(List UInt8)) (w0:World) (e:Ending) (w':World):Prop:=∃u B Lv G,e=.returned (.int .i64 (upP k bs).1)∧Cell1 u∧((upP k bs).1=0→OwnSl 76 1 u B.length (cellsB B) Lv∧BOk G B∧B.map (·.2)=(upP k bs).2)∧Step [bl,bk] ((bl,blk 24 [u])::(bk,blk 3 [.int .i64 (k:Nat)])::(Lv++G)) w0 w'
end Go.Gx
namespace Go.Gx
open Go.Proofs List
attribute [local irreducible] shaL cutD frontL
theorem lay_some {s s':AS}{d x:U8} (h:s.lay d x=some s'):s'=⟨s.k,s.cap,s.last+1,s.gets,s.puts,insX ⟨d,x,s.last+1⟩ s.X⟩:=by
 unfold AS.lay at h
 split at h
 ·exact(Option.some.inj h).symm
 ·cases h
theorem findX_ins' {b:Blb}{X:List Blb} (h:SortedX X){d:U8} (hd:d≠b.d):findX d (insX b X)=findX d X:=by
 have hp:=insX_perm b h
 rw[findX_perm hp ((hp.map _).nodup_iff.1 (insX_sorted b h).nodup) d,findX,List.find?_cons]
 have h1:decide (b.d=d)=false:=by simpa using fun e=>hd e.symm
 rw[h1]
 exact findX_del hd X
def digsK (k:Nat) (l:List (List UInt8)):List (List UInt8):=l.map fun x=>frontL x k
def putAll (s:AS) (l:List (List UInt8)):AS:=l.foldl (fun s x=>(s.put x).2.2) s
structure PutOk (k:Nat) (l:List (List UInt8)) (s:AS):Prop where
 ok:s.Ok
 hk:s.k=k
 cap:s.cap=67108864
 few:s.Few l.length
 used:usedX s.X=(l.map fun x=>x.length+32).sum
 has:∀d,s.has d=decide (d∈digsK k l)
 get:∀x∈l,s.get (frontL x k)=(x,0)
 num:s.X.length=l.length
theorem nodup_snoc{l:List (List UInt8)}{d:U8}:(l++[d]).Nodup↔l.Nodup∧d∉l:=by
 rw[nodup_append]
 constructor
 ·rintro⟨h1,_,h3⟩
  exact⟨h1,fun h=>h3 d h d (by simp) rfl⟩
 ·rintro⟨h1,h2⟩
  exact⟨h1,nodup_cons.2 ⟨by simp,nodup_nil⟩,fun a ha b hb e=>by
   rw[mem_singleton] at hb
   exact h2 (hb▸e▸ha)⟩
def lastK (k:Nat) (l:List (List UInt8)):(List UInt8):=frontL (l.getLastD []) k
def fitS (k:Nat) (l:List (List UInt8)):AS:=putAll (newS k 67108864) l
def fitB (k:Nat) (l of:List (List UInt8)):Bool:=decide ((digsK k l).Nodup∧(runs (fitS k l) rmG [rootS (lastK k l)] ws0).1=0∧of=digsK k l)
section
variable{v:Value}{B:BL}{k kk:Nat}{gf of:List (List UInt8)}{D:OL}{w0:World}
end
def putRun (t:AS):List (List UInt8)→Int×AS
 | []=>(0,t)
 | x::l=>if (t.put x).2.1≠0 then ((((t.put x).2.1:Nat):Int),(t.put x).2.2) else putRun (t.put x).2.2 l
def unpR (s:AS) (bs:(List UInt8)) (of:List (List UInt8)):(List UInt8)×Int×AS:=
 if 4194304<bs.length then (zD,2,s) else if (upP s.k bs).1≠0 then (zD,(upP s.k bs).1,s) else if fitB s.k (upP s.k bs).2 of=false then (zD,81,s)
 else (if (putRun s (upP s.k bs).2).1=0 then lastK s.k (upP s.k bs).2 else zD,putRun s (upP s.k bs).2)
section
variable{s:AS}{bs:U8}{of:List (List UInt8)}
end
def GoF (k:Nat) (l gf of:List (List UInt8)) (kk:Nat):Prop:=(digsK k l).Nodup→(runs (fitS k l) rmG [rootS (lastK k l)] ws0).1=0→Goes (partsM (fitS k l) (runs (fitS k l) rmG [rootS (lastK k l)] ws0).2.m) [lastK k l] [] [] gf of kk
section
variable{bp N kk:Nat}{s:AS}{D L:OL}{v:Value}{bs:U8}{w0:World}{gf of:List (List UInt8)}
end
def upE (k:Nat) (bs:(List UInt8)):Int:=if 4194304<bs.length then 2 else (upP k bs).1
def RdRes (k:Nat) (bs:(List UInt8)) (w0:World) (e:Ending) (w':World):Prop:=∃u B Lv G,e=.returned (.tuple #[u,.int .i64 (upE k bs)])∧(upE k bs=0→OwnSl 76 1 u B.length (cellsB B) Lv∧BOk G B∧B.map (·.2)=(upP k bs).2)∧Step [] (Lv++G) w0 w'
end Go.Gx
namespace Go.Gx
open Go.Proofs Go.RowKit List
attribute [local irreducible] shaL cutD frontL
def pads (n:Nat):List Value:=List.replicate n (.int .u8 169)
def LendS (s:(List UInt8)):Obj:=blk 5 (u8s s++pads 67)
section
variable{wd:Int}{x:Stup}{v:Value}{bs:U8}
end
end Go.Gx
namespace Go.Gx
open Go.Proofs List
attribute [local irreducible] shaL cutD frontL decL decE
section
variable{s:AS}{rm:Rm}{U:U8→Prop}
theorem seqS_in{f:Std→WS→Int×WS} (hf:∀x t,MLe t (f x t).2){T:WS}:∀(l:List Std) (t:WS),(∀y∈l,∀u,(f y u).1=0→MLe (f y u).2 T→(∀p∈u.m,U p.1)→∀p∈(f y u).2.m,U p.1)→(seqS f l t).1=0→MLe (seqS f l t).2 T→(∀p∈t.m,U p.1)→∀p∈(seqS f l t).2.m,U p.1
 | [],t,_,_,_,ht=>ht
 | y::l,t,h,h0,hT,ht=>by
  by_cases c:(f y t).1≠0
  ·rw[seqS,if_pos c] at h0
   exact absurd h0 c
  rw[seqS,if_neg c] at h0 hT⊢
  have hp:=seqS_mle hf l (f y t).2
  exact seqS_in hf l _ (fun z hz=>h z (by simp[hz])) h0 hT (h y (by simp) t (by simpa using c) (fun p hq=>hT p (hp p hq)) ht)
theorem standP_in{T:WS} (hU:∀y,U y→(y,true)∈T.m→∀e∈partsD s y,U e):∀(n:Nat) (x:Std) (t:WS),(standP s rm n x t).1=0→MLe (standP s rm n x t).2 T→U x.d→(∀p∈t.m,U p.1)→∀p∈(standP s rm n x t).2.m,U p.1
 | 0,x,t,h,_,_,_=>by rw[standP] at h;cases h
 | n+1,x,t,h,hT,hx,ht=>by
  have hv:(visit s rm x t).1=0:=by
   by_cases c:(visit s rm x t).1=0
   ·exact c
   ·rw[standP,if_pos c] at h
    exact absurd h c
  rw[standP,if_neg (fun k=>k hv)] at h hT⊢
  have hp:=seqS_mle (fun y u p hp=>standP_mle (s:=s) (rm:=rm) n y (push y u) p (push_mle y u p hp)) (visit s rm x t).2.1 (visit s rm x t).2.2
  have hm:=visit_m hv
  have hxT:(x.d,x.dir)∈T.m:=hT _ (hp _ (visit_met hv))
  have hkid:∀y∈(visit s rm x t).2.1,U y.d:=by
   rcases (visit_ok hv).2.2.2 with⟨hd,_,e⟩ | ⟨_,_,e⟩
   ·intro y hy
    rw[e] at hy
    have ob:=mem_map.1 hy
    obtain⟨z,hz,rfl⟩:=ob
    rw[hd] at hxT
    exact hU _ hx hxT _ (mem_map_of_mem hz)
   ·intro y hy
    rw[e] at hy
    cases hy
  refine seqS_in (fun y u p hp=>standP_mle n y (push y u) p (push_mle y u p hp)) _ _ (fun y hy u h1 h2 hu=>standP_in hU n y (push y u) h1 h2 (hkid y hy) (fun p hp=>hu p (by rw[push_m] at hp;exact hp))) h hT fun p hp=>?_
  rw[hm] at hp
  rcases mem_append.1 hp with hp | hp
  ·exact ht p hp
  ·rw[mem_singleton] at hp
   rw[hp];exact hx
end
section
variable{P:U8→List (List UInt8)}{ds g o g' o':List (List UInt8)}{k:Nat}
theorem Goes.closed (h:Goes P ds g o g' o' k):(∀d∈ds,d∈g')∧∀d∈g',d∈g∨∀x∈P d,x∈g':=by
 induction h with
 | nil g o=>exact⟨(fun d hd=>by cases hd),fun d hd=>.inl hd⟩
 | @skip d ds g o g' o' k hd h ih=>exact⟨fun x hx=>(mem_cons.1 hx).elim (fun e=>by rw[e];exact h.keep _ hd) (ih.1 x),ih.2⟩
 | @go d ds g o g1 o1 g' o' k1 k2 hd h1 h2 i1 i2=>
  have hd1:d∈g1:=h1.keep d (by simp)
  refine⟨fun x hx=>(mem_cons.1 hx).elim (fun e=>by rw[e];exact h2.keep _ hd1) (i2.1 x),fun x hx=>?_⟩
  rcases i2.2 x hx with hx1 | hx1
  ·rcases i1.2 x hx1 with hx2 | hx2
   ·rcases mem_append.1 hx2 with hx2 | hx2
    ·exact .inl hx2
    ·rw[mem_singleton] at hx2
     subst hx2
     exact .inr fun y hy=>h2.keep _ (i1.1 y hy)
   ·exact .inr fun y hy=>h2.keep _ (hx2 y hy)
  ·exact .inr hx1
end
section
variable{s:AS}{d:U8}{t:WS}{gf of:List (List UInt8)}{k:Nat}
theorem goes_met{rm:Rm} (h:runs s rm [rootS d] ws0=(0,t)) (hm:Met s d t.m) (hG:Goes (partsM s t.m) [d] [] [] gf of k):of.Nodup∧(∀x,x∈of↔x∈ordM t.m)∧of.length=(ordM t.m).length:=by
 have hc:=hG.closed
 have ob:=hG.ext
 obtain⟨n,o,hn,ho,hp⟩:=ob
 rw[nil_append] at hn ho
 rw[←hn,←ho] at hp
 have hnd:=hG.nodup nodup_nil
 have hof:of.Nodup:=hp.nodup_iff.2 hnd
 have hsub:=hG.sub hm.sub (fun x hx=>by obtain rfl:=mem_singleton.1 hx;exact mem_of_getElem? hm.head) (fun x hx=>by cases hx)
 rw[runs_root] at h
 have hin:=standP_in (s:=s) (rm:=rm) (U:=fun x=>x∈gf) (T:=t) (fun y hy hym e he=>by
  rcases hc.2 y hy with h1 | h1
  ·cases h1
  ·exact h1 e (by rw[partsM,if_pos hym];exact he)) 34 (rootS d) ws0 (by rw[h]) (by rw[h];exact fun _ h=>h) (hc.1 d (by simp)) (fun p hp=>by cases hp)
 rw[h] at hin
 have hiff:∀x,x∈of↔x∈ordM t.m:=fun x=>by
  rw[hp.mem_iff]
  refine⟨hsub x,fun hx=>?_⟩
  rw[ordM_mem] at hx
  have ob:=mem_map.1 hx
  obtain⟨p,hp,rfl⟩:=ob
  exact hin p hp
 refine⟨hof,hiff,Nat.le_antisymm (nodup_len hof fun x hx=>(hiff x).1 hx) (nodup_len ordM_nodup fun x hx=>(hiff x).2 hx)⟩
end
theorem get_front{s:AS}{x:U8} (h:(s.get x).2=0):frontL (s.get x).1 s.k=x:=by
 unfold AS.get at h⊢
 split at h
 ·cases h
 ·rename_i b hb
  split at h
  ·rename_i hf;rw[if_pos hf];exact hf
  ·cases h
structure PkOk (s:AS) (d:(List UInt8)) (r:Int×WS) (gf of:List (List UInt8)) (kk:Nat) (l:List (List UInt8)):Prop where
 dig:digsK s.k l=of
 len:l.length=of.length
 small:∀x∈l,x.length≤1048576
 ne:l≠[]
 few:l.length≤65536
 up:upP s.k (packB s.k l)=(0,l)
 last:lastK s.k l=d
 put:PutOk s.k l (fitS s.k l)
 get:∀p∈r.2.m,(fitS s.k l).get p.1=s.get p.1
 same:runs (fitS s.k l) rmG [rootS d] ws0=r
 goF:GoF s.k l gf of kk
 un:unpR (newS s.k 67108864) (packB s.k l) of=(d,0,fitS s.k l)
 num:(fitS s.k l).X.length=(ordM r.2.m).length
 parts:partsM (fitS s.k l) r.2.m=partsM s r.2.m
 pack:packR (fitS s.k l) r of=(packB s.k l,0)
 first:packR s r of=(packB s.k l,0)
theorem findX_of_mem{X:List Blb} (hX:SortedX X){d:U8}{b:Blb} (hb:b∈X) (hd:b.d=d):findX d X=some b:=by
 subst hd
 exact findX_mem hX.nodup hb
theorem findX_ins_ne{b:Blb}{X:List Blb} (h:SortedX X){d:U8}{c:Blb} (hd:b.d≠d) (hf:findX d X=some c):findX d (insX b X)=some c:=by
 have ob:=findX_some hf
 obtain⟨h1,h2⟩:=ob
 refine findX_of_mem (insX_sorted b h) ((insX_perm b h).mem_iff.2 (mem_cons_of_mem _ ?_)) h2
 exact mem_filter.2 ⟨h1,by simp only[decide_eq_true_eq];rw[h2];exact fun e=>hd e.symm⟩
theorem put_cases (s:AS) (y:U8):((s.put y).2.1≠0∧(s.put y).2.2.X=s.X∧(s.put y).1=zD)∨
  ((s.put y).2.1=0∧(s.put y).1=frontL y s.k∧(s.put y).2.2.X=s.X∧∃b,findX (frontL y s.k) s.X=some b∧b.x=y)∨
  ((s.put y).2.1=0∧(s.put y).1=frontL y s.k∧(∀b,findX (frontL y s.k) s.X=some b→frontL b.x s.k≠frontL y s.k)∧∃st,(s.put y).2.2.X=insX ⟨frontL y s.k,y,st⟩ s.X):=by
 have hgo:∀r:List UInt8×Nat×AS,(∀b,findX (frontL y s.k) s.X=some b→frontL b.x s.k≠frontL y s.k)→r=(match ({ s with puts:=s.puts+1 }:AS).lay (frontL y s.k) y with | some s2=>(frontL y s.k,0,s2) | none=>(zD,43,{ s with puts:=s.puts+1 }))→
   (r.2.1≠0∧r.2.2.X=s.X∧r.1=zD)∨(r.2.1=0∧r.1=frontL y s.k∧r.2.2.X=s.X∧∃b,findX (frontL y s.k) s.X=some b∧b.x=y)∨(r.2.1=0∧r.1=frontL y s.k∧(∀b,findX (frontL y s.k) s.X=some b→frontL b.x s.k≠frontL y s.k)∧∃st,r.2.2.X=insX ⟨frontL y s.k,y,st⟩ s.X):=by
  intro r hn hr
  cases hl:({ s with puts:=s.puts+1 }:AS).lay (frontL y s.k) y with
  | none=>rw[hl] at hr;subst hr;exact .inl ⟨by simp,rfl,rfl⟩
  | some s2=>
   rw[hl] at hr
   subst hr
   refine .inr (.inr ⟨rfl,rfl,hn,s.last+1,?_⟩)
   rw[lay_some hl]
 unfold AS.put
 simp only
 by_cases hlong:1048576<y.length
 ·rw[if_pos hlong];exact .inl ⟨by simp,rfl,rfl⟩
 ·rw[if_neg hlong]
  cases hf:findX (frontL y s.k) s.X with
  | none=>rw[hf] at hgo;exact hgo _ (fun b h=>by cases h) rfl
  | some b=>
   rw[hf] at hgo
   simp only
   by_cases hxy:b.x=y
   ·rw[if_pos hxy];exact .inr (.inl ⟨rfl,rfl,rfl,b,rfl,hxy⟩)
   ·rw[if_neg hxy]
    by_cases hw:frontL b.x s.k=frontL y s.k
    ·rw[if_pos hw];exact .inl ⟨by simp,rfl,rfl⟩
    ·rw[if_neg hw]
     exact hgo _ (fun c h=>by obtain rfl:=Option.some.inj h;exact hw) rfl
def Stay (M:List (List UInt8)) (s t:AS):Prop:=t.k=s.k∧∀d∈M,(s.get d).2=0∧t.get d=s.get d
theorem Stay.rfl' {M:List (List UInt8)}{s:AS} (h:∀d∈M,(s.get d).2=0):Stay M s s:=⟨rfl,fun d hd=>⟨h d hd,rfl⟩⟩
theorem get_found{s:AS}{d:U8} (h:(s.get d).2=0):∃b,findX d s.X=some b∧frontL b.x s.k=d:=by
 unfold AS.get at h
 cases hf:findX d s.X with
 | none=>rw[hf] at h;cases h
 | some b=>
  rw[hf] at h
  simp only at h
  split at h
  ·exact⟨b,rfl,by assumption⟩
  ·cases h
theorem get_ins{s t:AS}{d:U8}{b:Blb} (ok:s.Ok) (h:(s.get d).2=0) (hk:t.k=s.k) (hX:t.X=insX b s.X) (hb:b.d≠d):t.get d=s.get d:=by
 have ob:=get_found h
 obtain⟨c,hc,_⟩:=ob
 have h2:=findX_ins_ne ok.sorted hb hc
 unfold AS.get
 rw[hX,h2,hc,hk]
theorem get_same{s t:AS}{d:U8} (hk:t.k=s.k) (hX:t.X=s.X):t.get d=s.get d:=by
 unfold AS.get
 rw[hX,hk]
section
variable{M:List (List UInt8)}{s t:AS}{d y:U8}
theorem Stay.put (ok:t.Ok) (h:Stay M s t):Stay M s (t.put y).2.2:=by
 refine⟨(put_k t y).trans h.1,fun c hc=>⟨(h.2 c hc).1,?_⟩⟩
 rw[←(h.2 c hc).2]
 have hg:(t.get c).2=0:=by rw[(h.2 c hc).2];exact(h.2 c hc).1
 rcases put_cases t y with⟨_,e,_⟩ | ⟨_,_,e,_⟩ | ⟨_,_,hn,st,e⟩
 ·exact get_same (put_k t y) e
 ·exact get_same (put_k t y) e
 ·refine get_ins ok hg (put_k t y) e fun k=>?_
  have ob:=get_found hg
  obtain⟨b,hb,hw⟩:=ob
  have k':frontL y t.k=c:=k
  rw[←k'] at hb hw
  exact hn b hb hw
end
end Go.Gx
namespace Go.Gx
open Go.Proofs Go.RowKit List
attribute [local irreducible] shaL cutD frontL
def u8Z (z:Int):UInt8:=UInt8.ofNat (z % 256).toNat
section
variable{P:Program}{f:Slots}{w:World}{d:Option Tmp}{ty:TypeId}{pos:String}{af:Array Edge}{x y:Operand}{T T':TypeId}{k:IntKind}
end
def BOn (n:Nat) (D:(List (Nat×Obj))) (B:BL):Prop:=∀t∈B,Held D t.1 t.2∧t.2.length≤n
section
variable{α:Type}{b x:α}{L G Z:List α}
end
section
variable{wd z oth:Int}{x y:Stup}{va:Value}{l:List Int}
end
end Go.Gx
namespace Go.Gx
section
variable{P:Program}{ops:Array Oper}{Q:Post}{n:Nat}{rest:List Oper}{f:Slots}{ds:List Deferred}{w w0:World}{ty:TypeId}{pos:String}{af:Array Edge}{d:Nat}{x y:Operand}{T:TypeId}{S:List Nat}{L:OL}
def Tw (E:TypeId) (sz:Nat) (v u:Value) (n j:Nat) (ms gs:List Value) (L:(List (Nat×Obj))):Prop:=
 ms.length=n*sz∧gs.length=j*sz∧
 ((∃b cap room,v=.slice (some ⟨b,0,none⟩) n cap∧u=.slice (some ⟨b,0,none⟩) (n+j) cap∧L=[(b,blk E (ms++gs++room))]∧(ms++gs++room).length=cap*sz)∨
  (∃Lo Lu,L=Lo++Lu∧OwnSl E sz v n ms Lo∧OwnSl E sz u (n+j) (ms++gs) Lu))
end
section
variable{Ls:Nat→OL}{A B X:OL}{i N:Nat}{S:List Nat}{w0 w:World}
def allL (Ls:Nat→(List (Nat×Obj))) (N:Nat):(List (Nat×Obj)):=(List.range N).flatMap Ls
def othL (Ls:Nat→(List (Nat×Obj))) (i N:Nat):(List (Nat×Obj)):=((List.range N).filter (· != i)).flatMap Ls
def putL (Ls:Nat→(List (Nat×Obj))) (i:Nat) (X:(List (Nat×Obj))) (k:Nat):(List (Nat×Obj)):=if k=i then X else Ls k
end
end Go.Gx
namespace Go.Gx
open Go.Proofs List
section
variable{Ls:Nat→OL}{A X:OL}{i N:Nat}{S:List Nat}{w0 w:World}
end
def gD (k:Nat):(List UInt8):=UInt8.ofNat k::UInt8.ofNat (k / 256 ^ 1)::List.replicate 30 0
def gA (k:Nat):(List UInt8):=UInt8.ofNat k::List.replicate 31 0
def gE (i k:Nat):Ent:=⟨[],5000+(i:Int),gD k⟩
def gF (i k:Nat):Ent:=⟨[],-10 - (i:Int),gA k⟩
def gs1 (i n:Nat):List Ent:=(List.range n).map (gE i)
def gs2 (i n:Nat):List Ent:=(List.range n).map (gF i)
section
variable{N:Nat}{bA oA cA:Nat}{vs:Nat→Value}{ns:Nat→Nat}{xs:Nat→List Value}{Ls:Nat→OL}{w0:World}
end
section
variable{P:Program}{f:Slots}{w:World}{d:Option Tmp}{ty:TypeId}{pos:String}{af:Array Edge}{x y:Operand}{T T':TypeId}{a b:UInt8}
end
def m1 (i k:Nat):UInt8:=(UInt8.ofNat i ^^^ UInt8.ofNat (i / 256 ^ 1)*7) ^^^ UInt8.ofNat k*3
def m2 (i k:Nat):UInt8:=(255 - UInt8.ofNat i) ^^^ UInt8.ofNat k*5
def gb1 (i n:Nat):(List UInt8):=(List.range n).map (m1 i)
def gb2 (i n:Nat):(List UInt8):=(List.range n).map (m2 i)
section
variable{N:Nat}{bA oA cA:Nat}{vs:Nat→Value}{ns:Nat→Nat}{xs:Nat→List Value}{Ls:Nat→OL}{w0:World}
end
end Go.Gx
namespace Go.Gx
open Go.Proofs List
attribute [local irreducible] shaL cutD frontL
section
variable{f:Slots}{w:World}{d:Option Tmp}{ty:TypeId}{pos:String}{af:Array Edge}{x y:Operand}{T':TypeId}
end
def dgF (a:UInt8) (i:Nat):(List UInt8):=a::u8Z (i:Int)::List.replicate 30 0
def dg1 (a:UInt8):(List UInt8):=a::List.replicate 31 0
def filD (a:UInt8) (i:Nat) (l:List (List UInt8)):List (List UInt8):=(List.range i).map (dgF a)++l.drop i
section
variable{bp N k:Nat}{s:AS}{D L:OL}{d:U8}{gf of:List (List UInt8)}{w0:World}{v:Value}{x:U8}
end
end Go.Gx
namespace Go.Gx
open Go.Proofs Go.RowKit List
attribute [local irreducible] shaL cutD frontL
section
variable{α:Type}{a b c e:α}{A L R D L' Lv D' X Y Z L1 L2 L3 L4 L5 L6:List α}
end
def vs2 (v u:Value) (i:Nat):Value:=if i=0 then v else u
def ns2 (n m:Nat) (i:Nat):Nat:=if i=0 then n else m
def xs2 (x y:List Value) (i:Nat):List Value:=if i=0 then x else y
def Ls2 (L M:(List (Nat×Obj))) (i:Nat):(List (Nat×Obj)):=if i=0 then L else M
section
variable{wd z:Int}{x:Stup}{v3:Value}{B:BL}
end
end Go.Gx
namespace Go.Gx
open Go.Proofs List
attribute [local irreducible] shaL cutD frontL decL decE
section
variable{P:U8→List (List UInt8)}
inductive Rch (P:(List UInt8)→List (List UInt8)):(List UInt8)→(List UInt8)→Prop
 | one{p x:(List UInt8)}:x∈P p→Rch P p x
 | step{p q x:(List UInt8)}:q∈P p→Rch P q x→Rch P p x
theorem Rch.snoc{p q x:U8} (h:Rch P p q) (hx:x∈P q):Rch P p x:=by
 induction h with
 | one h=>exact .step h (.one hx)
 | step h _ ih=>exact .step h (ih hx)
theorem Goes.behind {ds g o g' o':List (List UInt8)}{k:Nat} (h:Goes P ds g o g' o' k):∀(K:U8→Prop),(∀q∈g,q∈o∨K q)→(∀q,K q→∀e∈ds,Rch P q e)→(∀q∈g',q∈o'∨K q)∧∀(i:Nat) (x:U8),o.length≤i→o'[i]?=some x→∀p∈P x,p∈o'.take i∨Rch P p x:=by
 induction h with
 | nil g o=>exact fun K hg _=>⟨hg,fun i x hi hx=>absurd (List.getElem?_eq_some_iff.1 hx).1 (by omega)⟩
 | @skip d ds g o g' o' k hd h ih=>exact fun K hg hK=>ih K hg fun q hq e he=>hK q hq e (mem_cons_of_mem _ he)
 | @go d ds g o g1 o1 g' o' k1 k2 hd h1 h2 i1 i2=>
  intro K hg hK
  obtain⟨a1,b1⟩:=i1 (fun q=>K q∨q=d) (fun q hq=>by
   rcases mem_append.1 hq with hq | hq
   ·exact(hg q hq).imp id .inl
   ·exact .inr (.inr (mem_singleton.1 hq))) (fun q hq e he=>by
   rcases hq with hq | rfl
   ·exact(hK q hq d (by simp)).snoc he
   ·exact .one he)
  obtain⟨a2,b2⟩:=i2 K (fun q hq=>by
   rcases a1 q hq with h | h | rfl
   ·exact .inl (mem_append_left _ h)
   ·exact .inr h
   ·exact .inl (by simp)) (fun q hq e he=>hK q hq e (mem_cons_of_mem _ he))
  have ob:=h1.ext
  obtain⟨_,t1,_,e1,_⟩:=ob
  have ob:=h2.ext
  obtain⟨_,t2,_,e2,_⟩:=ob
  refine⟨a2,fun i x hi hx p hp=>?_⟩
  rcases Nat.lt_trichotomy i o1.length with hlt | heq | hgt
  ·have hx1:o1[i]?=some x:=by
    rw[e2,append_assoc,getElem?_append_left hlt] at hx;exact hx
   rcases b1 i x hi hx1 p hp with h | h
   ·left
    rw[e2,append_assoc,take_append_of_le_length (by omega)]
    exact h
   ·exact .inr h
  ·subst heq
   have hxd:x=d:=by
    rw[e2,append_assoc,getElem?_append_right (Nat.le_refl _),Nat.sub_self] at hx
    simpa using hx.symm
   subst hxd
   rcases a1 p (h1.closed.1 p hp) with h | h | rfl
   ·left
    rw[e2,append_assoc,take_append_of_le_length (Nat.le_refl _),take_length]
    exact h
   ·exact .inr (hK p h x (by simp))
   ·exact .inr (.one hp)
  ·exact b2 i x (by rw[length_append];exact hgt) hx p hp
end
theorem stamp_same{s t:AS}{d:U8} (hX:t.X=s.X):t.stamp d=s.stamp d:=by
 unfold AS.stamp
 rw[hX]
theorem put_err{t:AS}{y:U8} (h:(t.put y).2.1≠0) (hy:y.length≤1048576):(t.put y).2.2.X=t.X∧((t.put y).2.1=43∨(t.put y).2.1=44):=by
 have h1:(t.put y).2.2.X=t.X:=by
  rcases put_cases t y with⟨_,e,_⟩ | ⟨h0,_⟩ | ⟨h0,_⟩
  ·exact e
  ·exact absurd h0 h
  ·exact absurd h0 h
 refine⟨h1,?_⟩
 unfold AS.put at h⊢
 simp only at h⊢
 rw[if_neg (by omega)] at h⊢
 have hgo:∀{r:List UInt8×Nat×AS},r=(match ({ t with puts:=t.puts+1 }:AS).lay (frontL y t.k) y with | some s2=>(frontL y t.k,0,s2) | none=>(zD,43,{ t with puts:=t.puts+1 }))→r.2.1≠0→r.2.1=43∨r.2.1=44:=fun {r} hr h0=>by
  cases hl:({ t with puts:=t.puts+1 }:AS).lay (frontL y t.k) y with
  | none=>rw[hl] at hr;rw[hr];exact .inl rfl
  | some s2=>rw[hl] at hr;rw[hr] at h0;exact absurd rfl h0
 cases hf:findX (frontL y t.k) t.X with
 | none=>rw[hf] at h;exact hgo rfl h
 | some b=>
  rw[hf] at h
  simp only at h⊢
  split at h
  ·exact absurd rfl h
  ·rename_i h2
   rw[if_neg h2]
   split at h
   ·rename_i h3;rw[if_pos h3];exact .inr rfl
   ·rename_i h3;rw[if_neg h3];exact hgo rfl h
theorem put_other{t:AS}{y e:U8} (ok:t.Ok) (h:(t.put y).2.1=0) (he:e≠frontL y t.k):(t.put y).2.2.stamp e=t.stamp e∧(t.put y).2.2.get e=t.get e:=by
 rcases put_cases t y with⟨h0,_⟩ | ⟨_,_,hX,_⟩ | ⟨_,_,_,st,hX⟩
 ·exact absurd h h0
 ·exact⟨stamp_same hX,get_same (put_k t y) hX⟩
 ·have hf:=findX_ins' (b:=⟨frontL y t.k,y,st⟩) ok.sorted (d:=e) he
  unfold AS.stamp AS.get
  rw[hX,hf,put_k]
  exact⟨rfl,rfl⟩
theorem put_lenX{t:AS}{y:U8} (ok:t.Ok):t.X.length≤(t.put y).2.2.X.length:=by
 rcases put_cases t y with⟨_,e,_⟩ | ⟨_,_,e,_⟩ | ⟨_,_,_,st,e⟩
 ·rw[e];exact Nat.le_refl _
 ·rw[e];exact Nat.le_refl _
 ·rw[e,(insX_perm (⟨frontL y t.k,y,st⟩:Blb) ok.sorted).length_eq,length_cons]
  have h1:=used_del ok.sorted (frontL y t.k)
  cases hf:findX (frontL y t.k) t.X with
  | none=>rw[show delX (frontL y t.k) t.X=t.X from delX_none hf];omega
  | some c=>rw[(delX_some ok.sorted.nodup hf).length_eq,length_cons];exact Nat.le_refl _
theorem put_used{t:AS}{y:U8} (ok:t.Ok):usedX (t.put y).2.2.X≤usedX t.X+(y.length+32):=by
 rcases put_cases t y with⟨_,e,_⟩ | ⟨_,_,e,_⟩ | ⟨_,_,_,st,e⟩
 ·rw[e];omega
 ·rw[e];omega
 ·have:=used_ins ok.sorted (⟨frontL y t.k,y,st⟩:Blb)
  rw[e];simp only at this;omega
theorem put_cap (t:AS) (y:U8):(t.put y).2.2.cap=t.cap:=by
 unfold AS.put
 simp only
 have hgo:∀{r:List UInt8×Nat×AS},r=(match ({ t with puts:=t.puts+1 }:AS).lay (frontL y t.k) y with | some s2=>(frontL y t.k,0,s2) | none=>(zD,43,{ t with puts:=t.puts+1 }))→r.2.2.cap=t.cap:=fun {r} hr=>by
  cases hl:({ t with puts:=t.puts+1 }:AS).lay (frontL y t.k) y with
  | none=>rw[hl] at hr;rw[hr]
  | some s2=>rw[hl] at hr;rw[hr,lay_some hl]
 split
 ·rfl
 ·cases hf:findX (frontL y t.k) t.X with
  | none=>exact hgo rfl
  | some b=>
   simp only
   split
   ·rfl
   ·split
    ·rfl
    ·exact hgo rfl
theorem put_room{t:AS}{y:U8} (ok:t.Ok) (h:usedX t.X+(y.length+32)≤t.cap):(t.put y).2.1≠43:=by
 have hl:∀s2:AS,s2 = { t with puts:=t.puts+1 }→s2.lay (frontL y t.k) y≠none:=fun s2 hs2 hn=>by
  have hu:=used_ins ok.sorted (⟨frontL y t.k,y,s2.last+1⟩:Blb)
  unfold AS.lay at hn
  split at hn
  ·cases hn
  ·rename_i hc
   rw[hs2] at hc
   simp only at hc hu
   rw[hs2] at hu
   simp only at hu
   omega
 unfold AS.put
 simp only
 have hgo:∀{r:List UInt8×Nat×AS},r=(match ({ t with puts:=t.puts+1 }:AS).lay (frontL y t.k) y with | some s2=>(frontL y t.k,0,s2) | none=>(zD,43,{ t with puts:=t.puts+1 }))→r.2.1≠43:=fun {r} hr=>by
  cases hl2:({ t with puts:=t.puts+1 }:AS).lay (frontL y t.k) y with
  | none=>exact absurd hl2 (hl _ rfl)
  | some s2=>rw[hl2] at hr;rw[hr];exact(by decide:(0:Nat)≠43)
 split
 ·exact(by decide:(2:Nat)≠43)
 ·cases hf:findX (frontL y t.k) t.X with
  | none=>exact hgo rfl
  | some b=>
   simp only
   split
   ·exact(by decide:(0:Nat)≠43)
   ·split
    ·exact(by decide:(44:Nat)≠43)
    ·exact hgo rfl
structure CopyOk (t t':AS) (l:List (List UInt8×List UInt8)) (n0 n:Nat) (f:Int):Prop where
 err:f=0∨f=43∨f=44
 k:t'.k=t.k
 ok:t'.Ok
 cap:t'.cap=t.cap
 other:∀d,d∉l.map (·.1)→t'.stamp d=t.stamp d
 num:n=n0+((l.map (·.1)).filter fun d=>decide (t'.stamp d≠t.stamp d)).length
 stay:∀d,(t.get d).2=0→t'.get d=t.get d
 laid:∀(i:Nat) (p:List UInt8×List UInt8),l[i]?=some p→t'.stamp p.1≠t.stamp p.1→∀j,j≤i→∀q,l[j]?=some q→t'.get q.1=(q.2,0)
 all:f=0→∀p∈l,t'.get p.1=(p.2,0)
 there:∀p∈l,t.get p.1=(p.2,0)→t'.stamp p.1=t.stamp p.1
 len:t.X.length≤t'.X.length
 used:usedX t'.X≤usedX t.X+(l.map fun p=>p.2.length+32).sum
 room:usedX t.X+(l.map fun p=>p.2.length+32).sum≤t.cap→f≠43
 few:∀N,t.Few N→t'.Few (N+l.length)
theorem get_put_stay{t:AS}{e y:U8} (ok:t.Ok) (h:(t.get e).2=0):(t.put y).2.2.get e=t.get e:=
 ((Stay.put ok (Stay.rfl' (M:=[e]) (s:=t) fun d hd=>by rw[mem_singleton.1 hd];exact h) (y:=y)).2 e (by simp)).2
theorem copy_ok:∀{l:List (List UInt8×List UInt8)}{t t':AS}{n0 n:Nat}{f:Int},copyR t l n0=(n,f,t')→t.Ok→(∀p∈l,frontL p.2 t.k=p.1∧p.2.length≤1048576)→(l.map (·.1)).Nodup→CopyOk t t' l n0 n f
 | [],t,t',n0,n,f,h,ok,_,_=>by
  rw[copyR] at h
  cases h
  exact⟨.inl rfl,rfl,ok,rfl,fun _ _=>rfl,rfl,fun _ _=>rfl,(fun i p h=>by simp at h),(fun _ p hp=>by cases hp),(fun p hp=>by cases hp),Nat.le_refl _,Nat.le_add_right _ _,fun _=>by decide,fun N h=>h⟩
 | (d,b)::l,t,t',n0,n,f,h,ok,hl,hn=>by
  have ob:=hl (d,b) (by simp)
  obtain⟨hd,hb⟩:=ob
  simp only at hd hb
  rw[map_cons,nodup_cons] at hn
  by_cases h0:(t.put b).2.1≠0
  ·rw[copyR_bad h0] at h
   cases h
   have ob:=put_err h0 hb
   obtain⟨hX,he⟩:=ob
   have hst:∀e,(t.put b).2.2.stamp e=t.stamp e:=fun e=>stamp_same hX
   refine⟨.inr (he.imp (fun h=>by rw[h];rfl) (fun h=>by rw[h];rfl)),put_k t b,ok.put b,put_cap t b,fun e _=>hst e,?_,fun e h=>get_same (put_k t b) hX,(fun i p _ hp=>absurd (hst p.1) hp),(fun hf=>absurd (Int.ofNat.inj hf) h0),(fun p _ _=>hst p.1),Nat.le_of_eq (by rw[hX]),by rw[hX];exact Nat.le_add_right _ _,fun hr hf=>?_,fun N hN=>(hN.put b).mono (by simp)⟩
   ·rw[filter_eq_nil_iff.2 (fun e _=>by simp[hst e])];rfl
   ·refine put_room ok ?_ (Int.ofNat.inj hf)
    rw[map_cons,sum_cons] at hr
    simp only at hr
    omega
  replace h0:(t.put b).2.1=0:=by simpa using h0
  obtain⟨n1,hn1,h1⟩:∃n1,n1=n0+(if (t.put b).2.2.stamp d=t.stamp d then 0 else 1)∧copyR (t.put b).2.2 l n1=(n,f,t'):=by
   by_cases hs:(t.put b).2.2.stamp d=t.stamp d
   ·rw[copyR_same h0 hs] at h
    exact⟨n0,by rw[if_pos hs];rfl,h⟩
   ·rw[copyR_new h0 hs] at h
    exact⟨n0+1,by rw[if_neg hs],h⟩
  have K:=copy_ok h1 (ok.put b) (fun p hp=>by rw[put_k];exact hl p (by simp[hp])) hn.2
  have hoth:∀e,e≠d→(t.put b).2.2.stamp e=t.stamp e∧(t.put b).2.2.get e=t.get e:=fun e he=>put_other ok h0 (by rw[hd];exact he)
  have hgd:(t.put b).2.2.get d=(b,0):=by
   have:=(AS.put_get ok h0).2
   rw[hd] at this;exact this
  have hgd':t'.get d=(b,0):=by rw[K.stay d (by rw[hgd]),hgd]
  have hsd:t'.stamp d=(t.put b).2.2.stamp d:=K.other d hn.1
  have hne:∀p∈l,p.1≠d:=fun p hp e=>hn.1 (mem_map.2 ⟨p,hp,e⟩)
  refine⟨K.err,K.k.trans (put_k t b),K.ok,K.cap.trans (put_cap t b),fun e he=>?_,?_,fun e h=>?_,fun i p hp hst j hj q hq=>?_,fun hf p hp=>?_,fun p hp hg=>?_,Nat.le_trans (put_lenX ok) K.len,?_,fun hr=>K.room ?_,fun N hN=>(K.few (N+1) (hN.put b)).mono (by rw[length_cons];omega)⟩
  ·rw[map_cons,mem_cons,not_or] at he
   rw[K.other e he.2,(hoth e he.1).1]
  ·rw[K.num,hn1,map_cons,filter_cons,hsd]
   have e2:((l.map (·.1)).filter fun e=>decide (t'.stamp e≠t.stamp e))=(l.map (·.1)).filter fun e=>decide (t'.stamp e≠(t.put b).2.2.stamp e):=filter_congr fun e he=>by
    have:e≠d:=fun h=>hn.1 (h▸he)
    rw[(hoth e this).1]
   rw[e2]
   by_cases hs:(t.put b).2.2.stamp d=t.stamp d
   ·simp[hs]
   ·simp[hs];omega
  ·have h2:=get_put_stay ok h (y:=b)
   rw[K.stay e (by rw[h2];exact h),h2]
  ·cases j with
   | zero=>
    obtain rfl:(d,b)=q:=by simpa using hq
    exact hgd'
   | succ j=>
    cases i with
    | zero=>omega
    | succ i=>
     rw[getElem?_cons_succ] at hp hq
     exact K.laid i p hp (by rw[(hoth p.1 (hne p (mem_of_getElem? hp))).1];exact hst) j (by omega) q hq
  ·rcases mem_cons.1 hp with rfl | hp
   ·exact hgd'
   ·exact K.all hf p hp
  ·rcases mem_cons.1 hp with rfl | hp
   ·rw[hsd]
    show(t.put b).2.2.stamp d=t.stamp d
    rw[put_there hg h0];rfl
   ·rw[K.there p hp (by rw[(hoth p.1 (hne p hp)).2];exact hg),(hoth p.1 (hne p hp)).1]
  ·have:=K.used
   have:=put_used ok (y:=b)
   rw[map_cons,sum_cons]
   simp only
   omega
  ·have:=put_used ok (y:=b)
   rw[map_cons,sum_cons] at hr
   simp only at hr
   rw[put_cap]
   omega
theorem filter_two{α:Type}{p q:α→Bool}:∀{l:List α},(∀x∈l,p x=true→q x=false)→(l.filter p).length+(l.filter q).length≤l.length
 | [],_=>Nat.le_refl _
 | x::l,h=>by
  have ih:=filter_two (p:=p) (q:=q) fun y hy=>h y (mem_cons_of_mem x hy)
  have hx:=h x (by simp)
  cases hp:p x <;> cases hq:q x <;> simp[filter_cons,hp,hq] <;> first | omega | (rw[hx hp] at hq;cases hq)
theorem sum_found{f:U8→Nat}:∀{of:List (List UInt8)}{X:List Blb},SortedX X→of.Nodup→(∀x∈of,∃b,findX x X=some b∧f x=b.x.length)→(of.map fun x=>f x+32).sum≤usedX X
 | [],_,_,_,_=>Nat.zero_le _
 | x::of,X,hX,hn,h=>by
  rw[nodup_cons] at hn
  have ob:=h x (by simp)
  obtain⟨b,hb,hf⟩:=ob
  have h1:=used_del hX x
  rw[hb] at h1
  simp only at h1
  have h2:=sum_found (f:=f) (of:=of) (X:=delX x X) (delX_sorted hX x) hn.2 fun y hy=>by
   rw[findX_del' (fun e:y=x=>hn.1 (e▸hy))]
   exact h y (mem_cons_of_mem _ hy)
  rw[map_cons,sum_cons]
  omega
theorem perm_of{l m:List (List UInt8)} (hl:l.Nodup) (hm:m.Nodup) (h:∀x,x∈l↔x∈m):l.Perm m:=by
 refine perm_iff_count.2 fun x=>?_
 have h1:∀{k:List (List UInt8)},k.Nodup→k.count x=if x∈k then 1 else 0:=fun {k} hk=>by
  by_cases hx:x∈k
  ·rw[if_pos hx]
   have:=nodup_iff_count.1 hk x
   have:=count_pos_iff.2 hx
   omega
  ·rw[if_neg hx]
   exact count_eq_zero.2 hx
 rw[h1 hl,h1 hm]
 simp only[h x]
end Go.Gx
namespace Go.Gx
open Go.Proofs
attribute [local irreducible] shaL cutD frontL decL decE
def partsX (s:AS) (d:List UInt8):List (List UInt8):=(decL (s.raw d)).map (·.dig)
theorem raw_lenX{s:AS} (ok:s.Ok) (d:List UInt8):(s.raw d).length≤67108864:=by
 unfold AS.raw
 cases hx:findX d s.X with
 | none=>exact Nat.zero_le _
 | some b=>
  have h1:=used_mem (findX_some hx).1
  have h2:=ok.used
  have h3:=ok.cap
  simp only
  omega
section
variable{bp:Nat}{s:AS}{D L:List (Nat×Obj)}{d:List UInt8}{w0:World}
set_option maxHeartbeats 4000000 in
theorem parts8_spec (hR:PRep bp s D L) (ok:s.Ok) (hw:Lives (L++D) w0) (hd:d.length=32) :
  Calls Tryz.prog 51 #[.pointer (some ⟨bp,0,none⟩),.agg (u8s d).toArray] w0 fun e w'=>∃u Lu,e=.returned u∧OwnSl 44 32 u (partsX s d).length (digsL (partsX s d)) Lu∧(∀x∈partsX s d,x.length=32)∧(partsX s d).length≤1024∧Step [] Lu w0 w':=by
 have hs:Step [] [] w0 w0:=Step.refl w0
 have hdl:(u8s d).length=32:=by rw[u8s,List.length_map,hd]
 have hrl:=raw_lenX ok d
 refine calls (n:=37) Tryz.func51 rfl rfl rfl ?_
 refine sr<|WL.box (cs:=u8s d) rfl rfl rfl hs (fun b3 w hs=>?_)
 refine wA<|wZ<|sr<|wm<|wV (run_loadN ty44 rfl hdl hs.a0)<|wE rfl (run_call en102 rfl rfl) (raw_abs hR ok (hw.after hs.clear) hd) ?_
 rintro e w ⟨vb,Lb,rfl,hvb,hq⟩
 refine⟨_,rfl,?_⟩
 replace hs:=Step.call0 hs hq
 refine wm<|wx rfl rfl<|wx rfl rfl<|wA<|wA<|wZ<|sr<|wm<|wE rfl (run_call en103 rfl rfl) (decodeR_at _ (hvb.sl hs) (hvb.roomW (by decide)) (by omega)) ?_
 rintro e w ⟨u,Le,rfl,hu,hoks,hle,hq⟩
 refine⟨_,rfl,?_⟩
 replace hs:=Step.call0 hs hq
 refine wm<|wx rfl rfl<|wx rfl rfl<|wA<|wA<|wZ ?_
 have ob:∃l,decL (s.raw d)=l:=⟨_,rfl⟩
 obtain⟨l,hll⟩:=ob
 have hpm:partsX s d=l.map (·.dig):=by rw[partsX,hll]
 rw[hll] at hu hoks hle
 have ob:=hu.form
 obtain⟨ua,uc,rfl⟩:=ob
 refine sr<|wA<|wZ<|cq<|sr<|wA<|wZ<|cB<|CW.loop (fun z f w'=>∃i vp LP,i≤l.length∧z=l.length - i∧OwnSl 44 32 vp i (digsL ((l.take i).map (·.dig))) LP∧Step [] (LP++(Le++(Lb++[(b3,blk 44 (u8s d))]))) w0 w'∧Holds f [(7,.slice ua l.length uc),(9,vp),(10,.int .i64 (i:Nat))]) (m:=l.length) ?_ ?_
 ·exact⟨0,_,[],Nat.zero_le _,rfl,OwnSl.nil _ _,hs,rfl,rfl,rfl,trivial⟩
 clear hs
 rintro z f w ⟨i,vp,LP,hil,rfl,hvp,hs,hf⟩
 have ob:=hf.chain
 obtain⟨g,rfl⟩:=ob
 by_cases hlt:i<l.length
 ·have ob:=hu.some1 (by omega)
  obtain⟨bu,cu,more,hu1,hu2,hu3⟩:=ob
  cases hu1
  subst hu2
  have ob:∃e,l[i]=e:=⟨_,rfl⟩
  obtain⟨e,he⟩:=ob
  have heo:=hoks e (he▸List.getElem_mem hlt)
  have hel:(u8s e.dig).length=32:=by rw[u8s,List.length_map,heo.1]
  have hent:At w bu (0+i*34) e.cells:=by
   have h2:=(At.of_blk (hs.has (bu,blk 115 (rows l++more)) (by simp))).left.ent hoks hlt
   rw[he] at h2;exact h2
  have hen2:At w bu (0+i*34+2) (u8s e.dig):=hent.drop 2
  refine cq<|sr<|wm<|wm<|wV (run_lenSl u116 rfl)<|wV (run_bT (run_lss rfl rfl) (by omega))<|wZ ?_
  first | refine CW.condP rfl (fun h=>?_) (fun h=>?_) | refine CW.cond rfl (fun h=>?_) (fun h=>?_)
  ·refine ck<|cq<|cB<|cr<|wm<|wm<|wm ?_
   first | refine WL.val rfl (run_ixSlN u116 ty115 rfl rfl (by omega)) ?_ | refine WL.val rfl (run_ixSl u116 ty115 rfl rfl (by omega)) ?_
   refine wF 2 u115 rfl ty44 rfl<|wV (run_loadN ty44 rfl hel hen2)<|WL.buildSlice (cs:=u8s e.dig) u35 ty44 rfl (by decide) rfl (filled1 hel rfl) rfl hs (fun b34 w hs=>?_)
   have hsl34:Sl w 32 (.slice (some ⟨b34,0,none⟩) 1 1) 1 (u8s e.dig):=.own1 hs (by rw[hel])
   replace hs:=Step.pIn hs
   refine WL.append u35 u35 ty44 rfl (by decide) rfl rfl (hvp) (hs) (hsl34) (Cells1.u8s _) (by omega) rfl (fun v35 Lv35 w hv35 hs=>?_)
   replace hs:=Step.pOut hs
   refine wA<|wZ<|cr<|wm<|wV (run_add (c:=((i+1:Nat):Int)) rfl rfl (by omega) (by omega))<|wA<|wZ ?_
   have hv2:OwnSl 44 32 v35 (i+1) (digsL ((l.take (i+1)).map (·.dig))) Lv35:=by
    rw[List.take_succ_eq_append_getElem hlt,he,List.map_append,List.map_singleton,digsL_snoc];exact hv35
   refine(show _∧_ from⟨rfl,_,?_,i+1,v35,Lv35,hlt,rfl,hv2,hs,rfl,rfl,rfl,trivial⟩)
   omega
  ·cases h
 ·obtain rfl:i=l.length:=by omega
  rw[List.take_length] at hvp
  refine cq<|sr<|wm<|wm<|wV (run_lenSl u116 rfl)<|wV (run_bF (run_lss rfl rfl) (by omega))<|wZ ?_
  first | refine CW.condP rfl (fun h=>?_) (fun h=>?_) | refine CW.cond rfl (fun h=>?_) (fun h=>?_)
  ·cases h
  refine CW.exit<|sr<|wm<|wA<|wZ<|CW.ret ?_
  refine fin_ret1 rfl ?_
  refine⟨_,LP,rfl,by rw[hpm,List.length_map];exact hvp,fun x hx=>?_,by rw[hpm,List.length_map];exact hle,Step.dropR (L1:=LP) hs⟩
  rw[hpm] at hx
  have ob:=List.mem_map.1 hx
  obtain⟨y,hy,rfl⟩:=ob
  exact(hoks y hy).1
structure DirsOk (s:AS) (d:List UInt8) (U l:List (List UInt8)):Prop where
 nodup:l.Nodup
 head:d∈l
 sub:∀x∈l,x∈U
 closed:∀x∈l,∀e∈decL (s.raw x),e.kind=2→e.dig∈l
def DirsTo (s:AS) (d:List UInt8) (U:List (List UInt8)) (i:Nat) (l:List (List UInt8)):Prop:=l.Nodup∧d∈l∧(∀x∈l,x∈U)∧∀(j:Nat) (y:List UInt8),j<i→l[j]?=some y→∀e∈decL (s.raw y),e.kind=2→e.dig∈l
theorem DirsTo.add{s:AS}{d x:List UInt8}{U l:List (List UInt8)}{i:Nat} (h:DirsTo s d U i l) (hi:i≤l.length) (hx:x∉l) (hU:x∈U):DirsTo s d U i (l++[x]):=
 ⟨nodup_snoc.2 ⟨h.1,hx⟩,List.mem_append_left _ h.2.1,fun y hy=>(List.mem_append.1 hy).elim (h.2.2.1 y) (fun hy=>by rw[List.mem_singleton.1 hy];exact hU),fun j y hj hy e he hk=>List.mem_append_left _ (h.2.2.2 j y hj (by rw[List.getElem?_append_left (by omega)] at hy;exact hy) e he hk)⟩
theorem DirsTo.next{s:AS}{d x:List UInt8}{U l:List (List UInt8)}{i:Nat} (h:DirsTo s d U i l) (hx:l[i]?=some x) (hc:∀e∈decL (s.raw x),e.kind=2→e.dig∈l):DirsTo s d U (i+1) l:=
 ⟨h.1,h.2.1,h.2.2.1,fun j y hj hy e he hk=>by
  rcases Nat.lt_or_ge j i with hlt | hge
  ·exact h.2.2.2 j y hlt hy e he hk
  ·obtain rfl:j=i:=by omega
   rw[hx] at hy
   cases hy
   exact hc e he hk⟩
theorem perm_ab1{α:Type}{A B C G:List α}:(A++(B++(C++G))).Perm (C++(A++(B++G))):=by
 classical exact List.perm_iff_count.2 fun x=>by simp only[List.count_append];omega
set_option maxHeartbeats 8000000 in
theorem dirs8_spec{U:List (List UInt8)} (hR:PRep bp s D L) (ok:s.Ok) (hw:Lives (L++D) w0) (hd:d.length=32) (hU:U.length≤65536) (hdU:d∈U) (hcl:∀x∈U,∀e∈decL (s.raw x),e.kind=2→e.dig∈U) (hU32:∀x∈U,x.length=32) :
  Calls Tryz.prog 49 #[.pointer (some ⟨bp,0,none⟩),.agg (u8s d).toArray] w0 fun e w'=>∃u Lu l,e=.returned u∧OwnSl 44 32 u l.length (digsL l) Lu∧DirsOk s d U l∧Step [] Lu w0 w':=by
 have hs:Step [] [] w0 w0:=Step.refl w0
 have hdl:(u8s d).length=32:=by rw[u8s,List.length_map,hd]
 refine calls (n:=65) Tryz.func49 rfl rfl rfl ?_
 refine sr<|WL.box (cs:=u8s d) rfl rfl rfl hs (fun b3 w hs=>?_)
 refine wA<|wZ<|sr<|wV (run_loadN ty44 rfl hdl hs.a0)<|WL.buildSlice (cs:=u8s d) u35 ty44 rfl (by decide) rfl (filled1 hdl rfl) rfl hs (fun b13 w hs=>?_)
 refine wA<|wZ ?_
 have hv0:OwnSl 44 32 (.slice (some ⟨b13,0,none⟩) 1 1) [d].length (digsL [d]) [(b13,blk 44 (u8s d))]:=by
  have e:digsL [d]=u8s d:=by simp[digsL]
  rw[e]
  exact OwnSl.mk (k:=1) (by rw[hdl])
 replace hs:Step [] ([(b13,blk 44 (u8s d))]++[(b3,blk 44 (u8s d))]) w0 w:=hs
 have h0:DirsTo s d U 0 [d]:=⟨by simp,by simp,fun x hx=>by rw[List.mem_singleton.1 hx];exact hdU,fun j y hj=>absurd hj (Nat.not_lt_zero _)⟩
 refine CW.seqM (fun f w=>∃(l:List (List UInt8)) (vl:Value) (Ll G:List (Nat×Obj)),DirsTo s d U l.length l∧OwnSl 44 32 vl l.length (digsL l) Ll∧Step [] (Ll++G) w0 w∧Holds f [(5,vl)]) ?_ ?_
 ·refine sr<|wA<|wZ<|cB<|CW.loop (fun zz f w'=>∃(i:Nat) (l:List (List UInt8)) (vl:Value) (Ll G:List (Nat×Obj)),i≤l.length∧zz=65536 - i∧DirsTo s d U i l∧OwnSl 44 32 vl l.length (digsL l) Ll∧Step [] (Ll++G) w0 w'∧Holds f [(0,.pointer (some ⟨bp,0,none⟩)),(5,vl),(6,.int .i64 (i:Nat))]) (m:=65536) ?_ ?_
  ·exact⟨0,[d],_,_,_,Nat.zero_le _,rfl,h0,hv0,hs,rfl,rfl,rfl,trivial⟩
  clear hs hv0 h0
  rintro zz f w ⟨i,l,vl,Ll,G,hi,rfl,hT,hvl,hs,hf⟩
  have hll:=Nat.le_trans (nodup_len hT.1 hT.2.2.1) hU
  have hlp:0<l.length:=List.length_pos_of_mem hT.2.1
  have hl32:∀x∈l,x.length=32:=fun x hx=>hU32 x (hT.2.2.1 x hx)
  have ob:=hvl.some1 hlp
  obtain⟨bl,cl,ml,rfl,rfl,hml⟩:=ob
  have ob:=hf.chain
  obtain⟨g,rfl⟩:=ob
  by_cases hlt:i<l.length
  ·have ob:∃x,l[i]?=some x:=⟨_,List.getElem?_eq_getElem hlt⟩
   obtain⟨x,hx⟩:=ob
   have hxm:=List.mem_of_getElem? hx
   have hx32:=hl32 x hxm
   have hxl:(u8s x).length=32:=by rw[u8s,List.length_map,hx32]
   have hxat:At w bl (0+i*32) (u8s x):=digsL_at hl32 (At.of_blk (hs.has (bl,blk 44 (digsL l++ml)) (by simp))).left hx
   have hxU:=hT.2.2.1 x hxm
   have hrl:=raw_lenX ok x
   refine cq<|sr<|wm<|wm<|wV (run_lenSl u35 rfl)<|wV (run_bT (run_lss rfl rfl) (by omega))<|wZ ?_
   first | refine CW.condP rfl (fun h=>?_) (fun h=>?_) | refine CW.cond rfl (fun h=>?_) (fun h=>?_)
   ·refine ck<|CW.seqM (fun f w=>∃(l:List (List UInt8)) (vl:Value) (Ll G:List (Nat×Obj)),i+1≤l.length∧DirsTo s d U (i+1) l∧OwnSl 44 32 vl l.length (digsL l) Ll∧Step [] (Ll++G) w0 w∧Holds f [(0,.pointer (some ⟨bp,0,none⟩)),(5,vl),(6,.int .i64 (i:Nat))]) ?_ ?_
    ·refine cB<|sr<|wm<|wm<|wm ?_
     first | refine WL.val rfl (run_ixSlN u35 ty44 rfl rfl (by omega)) ?_ | refine WL.val rfl (run_ixSl u35 ty44 rfl rfl (by omega)) ?_
     refine wV (run_loadN ty44 rfl hxl hxat)<|wE rfl (run_call en102 rfl rfl) (raw_abs hR ok (hw.after hs.clear) hx32) ?_
     rintro e w ⟨vb,Lb,rfl,hvb,hq⟩
     refine⟨_,rfl,?_⟩
     replace hs:=Step.call0 hs hq
     refine wm<|wx rfl rfl<|wx rfl rfl<|wA<|wA<|wZ<|sr<|wm<|wE rfl (run_call en103 rfl rfl) (decodeR_at _ (hvb.sl hs) (hvb.roomW (by decide)) (by omega)) ?_
     rintro e w ⟨u,Le,rfl,hu,hoks,hle,hq⟩
     refine⟨_,rfl,?_⟩
     replace hs:=Step.call0 hs hq
     refine wm<|wx rfl rfl<|wx rfl rfl<|wA<|wA<|wZ ?_
     have hclx:=hcl x hxU
     have ob:∃es,decL (s.raw x)=es:=⟨_,rfl⟩
     obtain⟨es,hes⟩:=ob
     rw[hes] at hu hoks hle hclx
     have ob:=hu.form
     obtain⟨ua,uc,rfl⟩:=ob
     replace hs:=Step.perm hs perm_ab1
     refine sr<|wA<|wZ<|cB<|CW.loop (fun zz f w'=>∃(k:Nat) (l:List (List UInt8)) (vl:Value) (Ll G:List (Nat×Obj)),k≤es.length∧zz=es.length - k∧i<l.length∧l[i]?=some x∧DirsTo s d U i l∧(∀e∈es.take k,e.kind=2→e.dig∈l)∧OwnSl 44 32 vl l.length (digsL l) Ll∧Step [] (Ll++(Le++G)) w0 w'∧Holds f [(0,.pointer (some ⟨bp,0,none⟩)),(5,vl),(6,.int .i64 (i:Nat)),(9,.slice ua es.length uc),(11,.int .i64 (k:Nat))]) (m:=es.length) ?_ ?_
     ·exact⟨0,l,_,_,_,Nat.zero_le _,rfl,hlt,hx,hT,(fun e he=>by simp at he),hvl,hs,rfl,rfl,rfl,rfl,rfl,trivial⟩
     clear hs hvl hT hlt hx hl32 hll hlp hml hxat hxm
     rintro zz f w ⟨k,l,vl,Ll,G,hk,rfl,hlt,hx,hT,htk,hvl,hs,hf⟩
     have hll:=Nat.le_trans (nodup_len hT.1 hT.2.2.1) hU
     have hl32:∀x∈l,x.length=32:=fun x hx=>hU32 x (hT.2.2.1 x hx)
     have ob:=hvl.form
     obtain⟨va,vc,rfl⟩:=ob
     have ob:=hf.chain
     obtain⟨g,rfl⟩:=ob
     by_cases hkl:k<es.length
     ·have ob:=hu.some1 (by omega)
      obtain⟨bu,cu,more,hu1,hu2,hu3⟩:=ob
      cases hu1
      subst hu2
      have ob:∃e,es[k]=e:=⟨_,rfl⟩
      obtain⟨e,he⟩:=ob
      have hem:e∈es:=he▸List.getElem_mem hkl
      have heo:=hoks e hem
      have hel:(u8s e.dig).length=32:=by rw[u8s,List.length_map,heo.1]
      have hent:At w bu (0+k*34) e.cells:=by
       have h2:=(At.of_blk (hs.has (bu,blk 115 (rows es++more)) (by simp))).left.ent hoks hkl
       rw[he] at h2;exact h2
      have hen2:At w bu (0+k*34+2) (u8s e.dig):=hent.drop 2
      have htk1:es.take (k+1)=es.take k++[e]:=by rw[List.take_succ_eq_append_getElem hkl,he]
      have hhas:=fun{w1:World} (h:∀p∈Ll,w1.heap[p.1]?=some p.2)=>hasL8_spec (w0:=w1) (Dgs.own hvl h hl32 (by omega)) heo.1
      refine cq<|sr<|wm<|wm<|wV (run_lenSl u116 rfl)<|wV (run_bT (run_lss rfl rfl) (by omega))<|wZ ?_
      first | refine CW.condP rfl (fun h=>?_) (fun h=>?_) | refine CW.cond rfl (fun h=>?_) (fun h=>?_)
      ·by_cases hkd:e.kind=2
       ·by_cases hm:e.dig∈l
        ·have hin:e.kind=2→e.dig∈l:=fun _=>hm
         rw[decide_eq_true hm] at hhas
         refine ck<|cq<|cB<|sr<|wm<|wm ?_
         first | refine WL.val rfl (run_ixSlN u116 ty115 rfl rfl (by omega)) ?_ | refine WL.val rfl (run_ixSl u116 ty115 rfl rfl (by omega)) ?_
         refine wF 1 u115 rfl ty3 rfl<|wl ty3 rfl ((hent.cell (j:=1) rfl))<|wV (run_bT (run_eql rfl rfl) (by exact hkd))<|wm ?_
         first | (refine WL.yes rfl rfl rfl ?_;refine WL.val rfl (run_move) ?_) | refine WL.no rfl rfl rfl (.inl rfl) ?_ | refine WL.no rfl rfl rfl (.inr rfl) ?_
         first | (refine WL.yes rfl rfl rfl ?_;refine WL.val rfl (run_move) ?_) | refine WL.no rfl rfl rfl (.inl rfl) ?_ | refine WL.no rfl rfl rfl (.inr rfl) ?_
         first | (refine WL.yes rfl rfl rfl ?_;refine WL.val rfl (run_move) ?_) | refine WL.no rfl rfl rfl (.inl rfl) ?_ | refine WL.no rfl rfl rfl (.inr rfl) ?_
         first | (refine WL.yes rfl rfl rfl ?_;(first | refine WL.val rfl (run_ixSlN u116 ty115 rfl rfl (by omega)) ?_ | refine WL.val rfl (run_ixSl u116 ty115 rfl rfl (by omega)) ?_)) | refine WL.no rfl rfl rfl (.inl rfl) ?_ | refine WL.no rfl rfl rfl (.inr rfl) ?_
         first | (refine WL.yes rfl rfl rfl ?_;refine WL.val rfl (run_field (o':=2) u115 rfl ty44 rfl rfl rfl) ?_) | refine WL.no rfl rfl rfl (.inl rfl) ?_ | refine WL.no rfl rfl rfl (.inr rfl) ?_
         refine wy<|wV (run_loadN ty44 rfl hel hen2)<|wy<|wE rfl (run_call en32 rfl rfl) (hhas (fun p hp=>hs.has p (by simp[hp]))) ?_
         rintro e w ⟨rfl,hq⟩
         refine⟨_,rfl,?_⟩
         replace hs:=hs.callE hq
         first | (refine WL.yes rfl rfl rfl ?_;(first | refine WL.val rfl (run_notB rfl) ?_ | refine WL.val rfl (run_not rfl) ?_)) | refine WL.no rfl rfl rfl (.inl rfl) ?_ | refine WL.no rfl rfl rfl (.inr rfl) ?_
         first | refine WL.val rfl (run_pickT rfl) ?_ | refine WL.val rfl (run_pickF rfl) ?_
         refine wZ ?_
         first | refine CW.condP rfl (fun h=>?_) (fun h=>?_) | refine CW.cond rfl (fun h=>?_) (fun h=>?_)
         ·cases h
         refine ck<|cr<|wm<|wV (run_add (c:=((k+1:Nat):Int)) rfl rfl (by omega) (by omega))<|wA<|wZ<|(show _∧_ from⟨rfl,_,?_,k+1,l,_,Ll,_,hkl,rfl,hlt,hx,hT,?_,hvl,hs,rfl,rfl,rfl,rfl,rfl,trivial⟩)
         ·omega
         ·intro y hy hyk
          rw[htk1] at hy
          rcases List.mem_append.1 hy with hy | hy
          ·exact htk y hy hyk
          ·obtain rfl:=List.mem_singleton.1 hy
           exact hin hyk
        ·rw[decide_eq_false hm] at hhas
         refine ck<|cq<|cB<|sr<|wm<|wm ?_
         first | refine WL.val rfl (run_ixSlN u116 ty115 rfl rfl (by omega)) ?_ | refine WL.val rfl (run_ixSl u116 ty115 rfl rfl (by omega)) ?_
         refine wF 1 u115 rfl ty3 rfl<|wl ty3 rfl ((hent.cell (j:=1) rfl))<|wV (run_bT (run_eql rfl rfl) (by exact hkd))<|wm ?_
         first | (refine WL.yes rfl rfl rfl ?_;refine WL.val rfl (run_move) ?_) | refine WL.no rfl rfl rfl (.inl rfl) ?_ | refine WL.no rfl rfl rfl (.inr rfl) ?_
         first | (refine WL.yes rfl rfl rfl ?_;refine WL.val rfl (run_move) ?_) | refine WL.no rfl rfl rfl (.inl rfl) ?_ | refine WL.no rfl rfl rfl (.inr rfl) ?_
         first | (refine WL.yes rfl rfl rfl ?_;refine WL.val rfl (run_move) ?_) | refine WL.no rfl rfl rfl (.inl rfl) ?_ | refine WL.no rfl rfl rfl (.inr rfl) ?_
         first | (refine WL.yes rfl rfl rfl ?_;(first | refine WL.val rfl (run_ixSlN u116 ty115 rfl rfl (by omega)) ?_ | refine WL.val rfl (run_ixSl u116 ty115 rfl rfl (by omega)) ?_)) | refine WL.no rfl rfl rfl (.inl rfl) ?_ | refine WL.no rfl rfl rfl (.inr rfl) ?_
         first | (refine WL.yes rfl rfl rfl ?_;refine WL.val rfl (run_field (o':=2) u115 rfl ty44 rfl rfl rfl) ?_) | refine WL.no rfl rfl rfl (.inl rfl) ?_ | refine WL.no rfl rfl rfl (.inr rfl) ?_
         refine wy<|wV (run_loadN ty44 rfl hel hen2)<|wy<|wE rfl (run_call en32 rfl rfl) (hhas (fun p hp=>hs.has p (by simp[hp]))) ?_
         rintro e w ⟨rfl,hq⟩
         refine⟨_,rfl,?_⟩
         replace hs:=hs.callE hq
         first | (refine WL.yes rfl rfl rfl ?_;(first | refine WL.val rfl (run_notB rfl) ?_ | refine WL.val rfl (run_not rfl) ?_)) | refine WL.no rfl rfl rfl (.inl rfl) ?_ | refine WL.no rfl rfl rfl (.inr rfl) ?_
         first | refine WL.val rfl (run_pickT rfl) ?_ | refine WL.val rfl (run_pickF rfl) ?_
         refine wZ ?_
         first | refine CW.condP rfl (fun h=>?_) (fun h=>?_) | refine CW.cond rfl (fun h=>?_) (fun h=>?_)
         ·have hen3:At w bu (0+k*34+2) (u8s e.dig):=by
           have h2:=(At.of_blk (hs.has (bu,blk 115 (rows es++more)) (by simp))).left.ent hoks hkl
           rw[he] at h2
           exact h2.drop 2
          refine cr<|wm<|wm<|wm ?_
          first | refine WL.val rfl (run_ixSlN u116 ty115 rfl rfl (by omega)) ?_ | refine WL.val rfl (run_ixSl u116 ty115 rfl rfl (by omega)) ?_
          refine wF 2 u115 rfl ty44 rfl<|wV (run_loadN ty44 rfl hel hen3)<|WL.buildSlice (cs:=u8s e.dig) u35 ty44 rfl (by decide) rfl (filled1 hel rfl) rfl hs (fun b62 w hs=>?_)
          have hsl62:Sl w 32 (.slice (some ⟨b62,0,none⟩) 1 1) 1 (u8s e.dig):=.own1 hs (by rw[hel])
          replace hs:=Step.pIn hs
          refine WL.append u35 u35 ty44 rfl (by decide) rfl rfl (hvl) (hs) (hsl62) (Cells1.u8s _) (by omega) rfl (fun v63 Lv63 w hv63 hs=>?_)
          replace hs:=Step.pOut hs
          refine wA<|wZ ?_
          have hv2:OwnSl 44 32 v63 (l++[e.dig]).length (digsL (l++[e.dig])) Lv63:=by
           rw[List.length_append,digsL_snoc];exact hv63
          refine cr<|wm<|wV (run_add (c:=((k+1:Nat):Int)) rfl rfl (by omega) (by omega))<|wA<|wZ<|(show _∧_ from⟨rfl,_,?_,k+1,l++[e.dig],_,Lv63,_,hkl,rfl,by rw[List.length_append];omega,by rw[List.getElem?_append_left hlt];exact hx,hT.add (by omega) hm (hclx e hem hkd),?_,hv2,hs,rfl,rfl,rfl,rfl,rfl,trivial⟩)
          ·omega
          ·intro y hy hyk
           rw[htk1] at hy
           rcases List.mem_append.1 hy with hy | hy
           ·exact List.mem_append_left _ (htk y hy hyk)
           ·rw[List.mem_singleton.1 hy];simp
         ·cases h
       ·have hin:e.kind=2→e.dig∈l:=fun h=>absurd h hkd
        refine ck<|cq<|cB<|sr<|wm<|wm ?_
        first | refine WL.val rfl (run_ixSlN u116 ty115 rfl rfl (by omega)) ?_ | refine WL.val rfl (run_ixSl u116 ty115 rfl rfl (by omega)) ?_
        refine wF 1 u115 rfl ty3 rfl<|wl ty3 rfl ((hent.cell (j:=1) rfl))<|wV (run_bF (run_eql rfl rfl) (by exact hkd))<|wm ?_
        first | (refine WL.yes rfl rfl rfl ?_;refine WL.val rfl (run_move) ?_) | refine WL.no rfl rfl rfl (.inl rfl) ?_ | refine WL.no rfl rfl rfl (.inr rfl) ?_
        first | (refine WL.yes rfl rfl rfl ?_;refine WL.val rfl (run_move) ?_) | refine WL.no rfl rfl rfl (.inl rfl) ?_ | refine WL.no rfl rfl rfl (.inr rfl) ?_
        first | (refine WL.yes rfl rfl rfl ?_;refine WL.val rfl (run_move) ?_) | refine WL.no rfl rfl rfl (.inl rfl) ?_ | refine WL.no rfl rfl rfl (.inr rfl) ?_
        first | (refine WL.yes rfl rfl rfl ?_;(first | refine WL.val rfl (run_ixSlN u116 ty115 rfl rfl (by omega)) ?_ | refine WL.val rfl (run_ixSl u116 ty115 rfl rfl (by omega)) ?_)) | refine WL.no rfl rfl rfl (.inl rfl) ?_ | refine WL.no rfl rfl rfl (.inr rfl) ?_
        first | (refine WL.yes rfl rfl rfl ?_;refine WL.val rfl (run_field (o':=2) u115 rfl ty44 rfl rfl rfl) ?_) | refine WL.no rfl rfl rfl (.inl rfl) ?_ | refine WL.no rfl rfl rfl (.inr rfl) ?_
        first | (refine WL.yes rfl rfl rfl ?_;(first | refine WL.val rfl (run_loadN ty44 rfl (by first | rfl | assumption | (simp;done)) hs.a0) ?_ | refine WL.val rfl (run_loadN ty44 rfl (by first | rfl | assumption | (simp;done)) hs.a1) ?_ | refine WL.val rfl (run_loadN ty44 rfl (by first | rfl | assumption | (simp;done)) hs.a2) ?_ | refine WL.val rfl (run_loadN ty44 rfl (by first | rfl | assumption | (simp;done)) hs.a3) ?_ | refine WL.val rfl (run_loadN ty44 rfl (by first | rfl | assumption | (simp;done)) hs.a4) ?_ | refine WL.val rfl (run_loadN ty44 rfl (by first | rfl | assumption | (simp;done)) hs.a5) ?_ | refine WL.val rfl (run_loadN ty44 rfl (by first | rfl | assumption | (simp;done)) hs.a0) ?_)) | refine WL.no rfl rfl rfl (.inl rfl) ?_ | refine WL.no rfl rfl rfl (.inr rfl) ?_
        first | refine WL.no rfl rfl rfl (.inl rfl) ?_ | refine WL.no rfl rfl rfl (.inr rfl) ?_
        first | (refine WL.yes rfl rfl rfl ?_;(first | refine WL.val rfl (run_notB rfl) ?_ | refine WL.val rfl (run_not rfl) ?_)) | refine WL.no rfl rfl rfl (.inl rfl) ?_ | refine WL.no rfl rfl rfl (.inr rfl) ?_
        first | refine WL.val rfl (run_pickT rfl) ?_ | refine WL.val rfl (run_pickF rfl) ?_
        refine wZ ?_
        first | refine CW.condP rfl (fun h=>?_) (fun h=>?_) | refine CW.cond rfl (fun h=>?_) (fun h=>?_)
        ·cases h
        refine ck<|cr<|wm<|wV (run_add (c:=((k+1:Nat):Int)) rfl rfl (by omega) (by omega))<|wA<|wZ<|(show _∧_ from⟨rfl,_,?_,k+1,l,_,Ll,_,hkl,rfl,hlt,hx,hT,?_,hvl,hs,rfl,rfl,rfl,rfl,rfl,trivial⟩)
        ·omega
        ·intro y hy hyk
         rw[htk1] at hy
         rcases List.mem_append.1 hy with hy | hy
         ·exact htk y hy hyk
         ·obtain rfl:=List.mem_singleton.1 hy
          exact hin hyk
      ·cases h
     ·obtain rfl:k=es.length:=by omega
      rw[List.take_length] at htk
      refine cq<|sr<|wm<|wm<|wV (run_lenSl u116 rfl)<|wV (run_bF (run_lss rfl rfl) (by omega))<|wZ ?_
      first | refine CW.condP rfl (fun h=>?_) (fun h=>?_) | refine CW.cond rfl (fun h=>?_) (fun h=>?_)
      ·cases h
      refine CW.exit ?_
      exact⟨rfl,l,_,Ll,_,hlt,hT.next hx (by rw[hes];exact htk),hvl,hs,rfl,rfl,rfl,trivial⟩
    clear hs hvl hT hlt hx hl32 hll hlp hml hxat hxm
    rintro f w ⟨l,vl,Ll,G,hlt,hT,hvl,hs,hf⟩
    have ob:=hf.chain
    obtain⟨g,rfl⟩:=ob
    have hll:=Nat.le_trans (nodup_len hT.1 hT.2.2.1) hU
    refine cr<|wm<|wV (run_add (c:=((i+1:Nat):Int)) rfl rfl (by omega) (by omega))<|wA<|wZ<|(show _∧_ from⟨rfl,_,?_,i+1,l,vl,Ll,G,hlt,rfl,hT,hvl,hs,rfl,rfl,rfl,trivial⟩)
    omega
   ·cases h
  ·obtain rfl:i=l.length:=by omega
   refine cq<|sr<|wm<|wm<|wV (run_lenSl u35 rfl)<|wV (run_bF (run_lss rfl rfl) (by omega))<|wZ ?_
   first | refine CW.condP rfl (fun h=>?_) (fun h=>?_) | refine CW.cond rfl (fun h=>?_) (fun h=>?_)
   ·cases h
   refine CW.exit ?_
   exact⟨rfl,l,_,_,G,hT,hvl,hs,rfl,trivial⟩
 clear hs hv0
 rintro f w ⟨l,vl,Ll,G,hT,hvl,hs,hf⟩
 have ob:=hf.chain
 obtain⟨g,rfl⟩:=ob
 refine sr<|wm<|wA<|wZ<|CW.ret ?_
 refine fin_ret1 rfl ?_
 refine⟨_,Ll,l,rfl,hvl,⟨hT.1,hT.2.1,hT.2.2.1,fun x hx e he hk=>?_⟩,Step.dropR (L1:=Ll) hs⟩
 have ob:=List.mem_iff_getElem.1 hx
 obtain⟨j,hj,hje⟩:=ob
 exact hT.2.2.2 j x hj (by rw[List.getElem?_eq_getElem hj,hje]) e he hk
end
end Go.Gx
