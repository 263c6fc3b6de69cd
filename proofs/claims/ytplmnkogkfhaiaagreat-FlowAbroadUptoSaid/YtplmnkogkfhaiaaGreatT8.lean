/- What a walk that went well has told: its standings and its items go together; its digests are digests. No program in sight. Reach, of both sides; the document's Walk. Reach, of both sides; a World's root. The document's IsTree: it answers, and what a yes says. The document's tree.Build, safely: entr -/
import Derived.Test.YtplmnkogkfhaiaaGreatT7
import Derived.Test.YtplmnkogkfhaiaaGreatT2
set_option linter.unusedVariables false
set_option linter.unusedSimpArgs false
set_option maxRecDepth 100000
namespace Go.Gx
open Go.Proofs List
theorem entsP_ok{bs:U8} (hl:bs.length≤1048576):∀{n:Nat}{a:U8}{p q:Nat}{l:List Ent},entsP bs n a p=.ok (l,q)→Oks l
 | 0,a,p,q,l,h=>by
  unfold entsP at h
  injection h with h;injection h with h1 h2
  subst h1;exact Oks.nil
 | n+1,a,p,q,l,h=>by
  unfold entsP at h
  split at h
  ·cases h
  ·rename_i x q' h1
   split at h
   ·cases h
   ·rename_i l' r h2
    injection h with h;injection h with h3 h4
    subst h3
    intro y hy
    rcases mem_cons.1 hy with rfl | hy
    ·exact(entP_ok hl h1).1
    ·exact entsP_ok hl h2 y hy
theorem decL_oks (y:U8):Oks (decL y):=by
 intro x hx
 by_cases hbig:1048576<y.length
 ·have he:decE y=2:=if_pos hbig
  unfold decL at hx
  rw[if_neg (by rw[he];decide)] at hx
  cases hx
 ·unfold decL at hx
  split at hx
  ·unfold readP at hx
   split at hx
   ·cases hx
   ·rename_i l q h
    split at hx
    ·cases hx
    ·unfold decP at h
     split at h
     ·cases h
     ·split at h
      ·split at h
       ·cases h
       ·exact entsP_ok (by omega) h x hx
      ·cases h
  ·cases hx
def WS.J (t:WS):Prop:=t.m.map (·.2)=true::t.l.map (·.dir)
def WS.M32 (t:WS):Prop:=∀p∈t.m,p.1.length=32
theorem visit_ok{s:AS}{rm:Rm}{x:Std}{t:WS} (h:(visit s rm x t).1=0) :
  ¬rm.d<x.dep∧¬rm.n<(t.n:Int)+1∧(s.get x.d).2=0∧(x.dir=true∧decE (s.get x.d).1=0∧visit s rm x t=(0,kids x (s.get x.d).1,t.node.meet x)∨
   x.dir=false∧¬rm.b<(t.b:Int)+(s.get x.d).1.length∧visit s rm x t=(0,[],((t.node.meet x).byte (s.get x.d).1.length).item ⟨x.p,false,(s.get x.d).1⟩)):=by
 by_cases c1:rm.d<x.dep
 ·rw[visit_deep c1] at h;cases h
 by_cases c2:rm.n<(t.n:Int)+1
 ·rw[visit_nodes c1 c2] at h;cases h
 by_cases c3:(s.get x.d).2≠0
 ·rw[visit_get c1 c2 c3] at h;exact absurd (Int.ofNat.inj h) c3
 refine⟨c1,c2,by simpa using c3,?_⟩
 cases hx:x.dir with
 | true=>
  by_cases c5:decE (s.get x.d).1≠0
  ·rw[visit_dec c1 c2 c3 hx c5] at h;exact absurd h c5
  ·have c5:decE (s.get x.d).1=0:=by simpa using c5
   exact .inl ⟨rfl,c5,visit_dir c1 c2 c3 hx c5⟩
 | false=>
  by_cases c5:rm.b<(t.b:Int)+(s.get x.d).1.length
  ·rw[visit_bytes c1 c2 c3 hx c5] at h;cases h
  ·exact .inr ⟨rfl,c5,visit_file c1 c2 c3 hx c5⟩
theorem seqS_keep{P:WS→Prop}{f:Std→WS→Int×WS}:∀{l:List Std}{t:WS},(∀x∈l,∀t,P t→(f x t).1=0→P (f x t).2)→P t→(seqS f l t).1=0→P (seqS f l t).2
 | [],t,_,h,_=>h
 | x::l,t,hf,h,he=>by
  rw[seqS] at he⊢
  by_cases c:(f x t).1≠0
  ·rw[if_pos c] at he;exact absurd he c
  ·rw[if_neg c] at he⊢
   exact seqS_keep (fun y hy=>hf y (by simp[hy])) (hf x (by simp) t h (by simpa using c)) he
theorem standP_keep{P:WS→Prop}{s:AS}{rm:Rm} (Q:Std→Prop) (hv:∀x t,Q x→P t→(visit s rm x (push x t)).1=0→P (visit s rm x (push x t)).2.2) (hk:∀x y,Q x→y∈kids x (s.get x.d).1→Q y) :
  ∀(n:Nat){x:Std}{t:WS},Q x→P t→(stand s rm n x t).1=0→P (stand s rm n x t).2
 | 0,x,t,hx,h,he=>by cases he
 | n+1,x,t,hx,h,he=>by
  rw[stand,standP] at he⊢
  by_cases c:(visit s rm x (push x t)).1≠0
  ·rw[if_pos c] at he;exact absurd he c
  ·rw[if_neg c] at he⊢
   have c0:(visit s rm x (push x t)).1=0:=by simpa using c
   refine seqS_keep (f:=fun y u=>standP s rm n y (push y u)) (fun y hy u hu hy0=>standP_keep Q hv hk n (hk x y hx ?_) hu hy0) (hv x t hx h c0) he
   rcases (visit_ok c0).2.2.2 with⟨_,_,e⟩ | ⟨_,_,e⟩
   ·rw[e] at hy;exact hy
   ·rw[e] at hy;cases hy
theorem kids_dig{x y:Std}{b:U8} (h:y∈kids x b):y.d.length=32:=by
 have ob:=mem_map.1 h
 obtain⟨e,he,rfl⟩:=ob
 exact(decL_oks b e he).1
theorem visit_m{s:AS}{rm:Rm}{x:Std}{t:WS} (h0:(visit s rm x t).1=0):(visit s rm x t).2.2.m=t.m++[(x.d,x.dir)]:=by
 rcases (visit_ok h0).2.2.2 with⟨hd,_,e⟩ | ⟨hd,_,e⟩ <;> rw[e] <;> rfl
section
variable{s:AS}{rm:Rm}{d:U8}
theorem root_split (h:(standP s rm 34 (rootS d) ws0).1=0):∃t1,t1.m=[(d,true)]∧t1.l=[]∧standP s rm 34 (rootS d) ws0=seqS (fun y u=>stand s rm 33 y u) (kids (rootS d) (s.get d).1) t1:=by
 rw[standP] at h⊢
 by_cases c:(visit s rm (rootS d) ws0).1≠0
 ·rw[if_pos c] at h;exact absurd h c
 ·have c0:(visit s rm (rootS d) ws0).1=0:=by simpa using c
  rw[if_neg c]
  rcases (visit_ok c0).2.2.2 with⟨hd,_,e⟩ | ⟨hd,_,e⟩
  ·rw[e];exact⟨_,rfl,rfl,rfl⟩
  ·cases hd
theorem root_M32 (hd:d.length=32) (h:(standP s rm 34 (rootS d) ws0).1=0):(standP s rm 34 (rootS d) ws0).2.M32:=by
 have:=standP_keep (P:=WS.M32) (s:=s) (rm:=rm) (fun x=>x.d.length=32) (fun x t hx h h0 p hp=>by
  rw[visit_m h0,push_m] at hp
  rcases mem_append.1 hp with hp | hp
  ·exact h p hp
  ·obtain rfl:=mem_singleton.1 hp;exact hx) (fun x y hx hy=>kids_dig hy) 34 (x:=rootS d) (t:=ws0) hd (fun p hp=>by cases hp)
 rw[stand,push_root] at this
 exact this h
end
end Go.Gx
namespace Go.Gx
open Go.Proofs List
attribute [local irreducible] shaL cutD frontL
def stC8 (p:(List UInt8)×Bool):List Value:=u8s p.1++[.bool p.2]
def rowsSt (m:List ((List UInt8)×Bool)):List Value:=m.flatMap stC8
theorem rowsW_at:∀{T:List (WI×Value)}{w:World}{b off:Nat},At w b off (rowsW T)→∀{i:Nat}{u:WI×Value},T[i]?=some u→At w b (off+i*3) (wiC u)
 | [],w,b,off,_,i,d,h=>by simp at h
 | x::l,w,b,off,ha,0,d,h=>by
  rw[getElem?_cons_zero] at h
  obtain rfl:=Option.some.inj h
  rw[Nat.zero_mul,Nat.add_zero]
  rw[rowsW,flatMap_cons] at ha
  exact ha.left
 | x::l,w,b,off,ha,i+1,d,h=>by
  rw[rowsW,flatMap_cons] at ha
  have h2:=ha.right
  have h3:=rowsW_at (T:=l) h2 (i:=i) (u:=d) h
  rw[show off+(i+1)*3=off+(wiC x).length+i*3 by show off+(i+1)*3=off+3+i*3;omega]
  exact h3
theorem At.ownSl{E:TypeId}{sz k:Nat}{v:Value}{xs:List Value}{Lv:OL}{w:World} (h:OwnSl E sz v k xs Lv) (hw:∀p∈Lv,w.heap[p.1]?=some p.2) (hk:0<k):∃b c,v=.slice (some ⟨b,0,none⟩) k c∧At w b 0 xs:=by
 obtain⟨h1,⟨rfl,h0,rfl⟩ | ⟨b,cap,more,rfl,rfl,h3⟩⟩:=h
 ·omega
 ·exact⟨b,cap,rfl,(At.of_blk (hw (b,blk E (xs++more)) (by simp))).left⟩
section
variable{S:List Nat}{Z X:OL}{a:Nat×Obj}{w w':World}
theorem Step.in1 (h:Step S (a::(Z++X)) w w'):Step S (Z++(a::X)) w w':=h.perm perm_middle.symm
end
def reachL (r:Int×WS):List (List UInt8):=if r.1=0 then ordM r.2.m else []
section
variable{br bp N:Nat}{s:AS}{D R L:OL}{d:U8}{rn rd rb:Int}{w0:World}
end
section
variable{br bp N:Nat}{s:AS}{D R L:OL}{d:U8}{rn rd rb:Int}{w0:World}
set_option maxHeartbeats 4000000 in
theorem reach_spec (hR:PRep bp s D L) (ok:s.Ok) (hfew:s.Few N) (hN:N<1000000000000) (hd:d.length=32) (hrm:(rmOf rn rd rb).Ok) (hw:Lives (L++D) w0) :
  CP 17 #[pt bp,.agg (u8s d).toArray,.agg #[.int .i64 rn,.int .i64 rd,.int .i64 rb]] w0 fun e w'=>∃v Lv L' D',e=.returned (.tuple #[v,.int .i64 (runs s (rmOf rn rd rb) [rootS d] ws0).1])∧
   PRep bp (s.gotN (runs s (rmOf rn rd rb) [rootS d] ws0).2.g) (D'++D) L'∧OwnSl 44 32 v (reachL (runs s (rmOf rn rd rb) [rootS d] ws0)).length (digsL (reachL (runs s (rmOf rn rd rb) [rootS d] ws0))) Lv∧Step (L.map (·.1)) (L'++(Lv++D')) w0 w':=by
 have hw9:=fun{w1:World} h=>fwalk_spec (w0:=w1) hR ok hfew hN hd hrm h
 have ob:∃r,runs s (rmOf rn rd rb) [rootS d] ws0=r:=⟨_,rfl⟩
 obtain⟨r,hr⟩:=ob
 rw[hr] at hw9⊢
 have hdl:(u8s d).length=32:=by rw[u8s,length_map,hd]
 have hs:Step (List.map (·.1) (L++D)) (L++D) w0 w0:=hw
 refine calls (n:=24) Tryz.func17 rfl rfl rfl ?_
 refine sr<|WL.box (cs:=u8s d) rfl rfl rfl hs (fun b4 w hs=>?_)
 refine WL.box (cs:=[.int .i64 rn,.int .i64 rd,.int .i64 rb]) rfl rfl rfl hs (fun b5 w hs=>?_)
 refine wA<|wA<|wZ<|sr<|wm<|wR ty44 rfl hdl hs.a1<|wR ty30 rfl rfl hs.a0<|wE rfl (run_call en64 rfl rfl) (hw9 (Lives.mk hs.tail.tail)) ?_
 rintro e w ⟨v,L1,D1,M,rfl,hP,hM,hnil,hq⟩
 refine⟨_,rfl,?_⟩
 replace hs:=Own.put (A:=[_,_]) (L:=L) hs hq
 refine wm<|wx rfl rfl<|wx rfl rfl<|wA<|wA<|wZ ?_
 replace hs:=hs.tail.tail
 by_cases he:r.1≠0
 ·have hre:reachL r=[]:=if_neg he
  rw[hre]
  refine cq<|sr<|wm<|wV (run_bT (run_neq rfl rfl) (by exact he))<|wZ<|CW.cond rfl (fun h=>?_) (fun h=>?_)
  ·refine sr<|wm<|wA<|wA<|wZ<|CW.ret ?_
   refine fin_ret2 rfl ?_
   exact⟨_,[],L1,M++D1,rfl,by rw[append_assoc];exact hP.mono mem_right,OwnSl.nil _ _,Step.fin (M:=[]) hw hs⟩
  ·cases h
 have he0:r.1=0:=by simpa using he
 have hre:reachL r=ordM r.2.m:=if_pos he0
 rw[hre]
 have ob:=hM he0
 obtain⟨bm,rfl,vO,LO,q1,M1,k1,q2,M2,k2,rfl,hO,hB,hPm⟩:=ob
 refine cq<|sr<|wm<|wV (run_bF (run_neq rfl rfl) (by exact he))<|wZ<|CW.cond rfl (fun h=>?_) (fun h=>?_)
 ·cases h
 refine ck<|sr<|wm<|wn rfl<|wF 0 u132 rfl ty35 rfl<|wl ty35 rfl ((by have h:=hs.has (bm,blk 132 [vO,.map (some q1),.map (some q2)]) (by simp);exact(cell_blk h 0).trans rfl))<|wA<|wA<|wZ<|CW.ret ?_
 refine fin_ret2 rfl ?_
 refine⟨vO,LO,L1,[(bm,blk 132 [vO,.map (some q1),.map (some q2)]),(q1,mapObj M1 k1),(q2,mapObj M2 k2)]++D1,congrArg (fun z:Int=>Ending.returned (.tuple #[vO,.int .i64 z])) he0.symm,by rw[append_assoc];exact hP.mono mem_right,hO,Step.fin (M:=LO) hw ?_⟩
 refine hs.perm ?_
 have e:L1++((((bm,blk 132 [vO,.map (some q1),.map (some q2)])::(q1,mapObj M1 k1)::(q2,mapObj M2 k2)::LO)++D1)++D)=L1++([(bm,blk 132 [vO,.map (some q1),.map (some q2)]),(q1,mapObj M1 k1),(q2,mapObj M2 k2)]++(LO++(D1++D))):=by simp[append_assoc]
 have e2:LO++(L1++(([(bm,blk 132 [vO,.map (some q1),.map (some q2)]),(q1,mapObj M1 k1),(q2,mapObj M2 k2)]++D1)++D))=LO++(L1++([(bm,blk 132 [vO,.map (some q1),.map (some q2)]),(q1,mapObj M1 k1),(q2,mapObj M2 k2)]++(D1++D))):=by simp[append_assoc]
 rw[e,e2]
 exact((perm_append_comm_assoc _ LO (D1++D)).append_left L1).trans (perm_append_comm_assoc L1 LO _)
end
end Go.Gx
namespace Go.Gx
open Go.Proofs Go.RowKit List
structure It where
 p:(List UInt8)
 d:Bool
 v:Value
 x:(List UInt8)
def lessP (s t:(List UInt8)):Bool:=decide (cmpF (partsL s) (partsL t)<0)
def itC (p:(List UInt8)) (dir:Bool) (v:Value):List Value:=[str p,.bool dir,v]
def its (l:List It):List Value:=l.flatMap fun x=>itC x.p x.d x.v
structure It.Ok (w:World) (x:It):Prop where
 hb:Sl w 1 x.v x.x.length (u8s x.x)
 lp:x.p.length≤9223372036854775807
 lb:x.x.length≤9223372036854775807
structure Its (w:World) (v:Value) (l:List It):Prop where
 sl:Sl w 3 v l.length (its l)
 ok:∀x∈l,x.Ok w
 len:l.length≤9223372036854775807
theorem its_at:∀{l:List It} (i j:Nat) (h:i<l.length),j<3→(its l)[i*3+j]?=(itC l[i].p l[i].d l[i].v)[j]?
 | x::l,0,j,_,hj=>by
  rw[its,flatMap_cons,Nat.zero_mul,Nat.zero_add,getElem?_append_left (by show j<3;exact hj)]
  rfl
 | x::l,i+1,j,h,hj=>by
  have h3:(itC x.p x.d x.v).length=3:=rfl
  rw[its,flatMap_cons,getElem?_append_right (by rw[h3];omega),h3,show(i+1)*3+j - 3=i*3+j by omega]
  have h2:=its_at (l:=l) i j (by simpa using h) hj
  simpa[its] using h2
theorem Its.at{w:World}{v:Value}{l:List It} (h:Its w v l){i:Nat}{x:It} (hx:l[i]?=some x):∃b off c,v=.slice (some ⟨b,off,none⟩) l.length c∧At w b (off+i*3) (itC x.p x.d x.v):=by
 have ob:=List.getElem?_eq_some_iff.1 hx
 obtain⟨hlt,rfl⟩:=ob
 have ob:=h.sl
 obtain⟨hl,⟨a,c,hc,h1⟩ | ⟨b,off,c,hc,hat⟩⟩:=ob
 ·omega
 ·refine⟨b,off,c,hc,fun j v hj=>?_⟩
  have hj3:j<3:=(List.getElem?_eq_some_iff.1 hj).1
  have h1:=its_at i j hlt hj3
  rw[Nat.add_assoc]
  exact hat _ _ (h1.trans hj)
theorem It.cells1{w:World}{x:It} (h:x.Ok w):Cells1 (itC x.p x.d x.v):=by
 intro v hv
 simp only[itC,mem_cons,not_mem_nil,or_false] at hv
 have ob:=h.hb.form
 obtain⟨a,c,he⟩:=ob
 rcases hv with rfl | rfl | rfl
 ·rfl
 ·rfl
 ·rw[he];rfl
theorem Step.own1{S:List Nat}{L:OL}{w0 w:World} (h:Step S L w0 w):Step (L.map (·.1)) L w w:=Lives.mk h
theorem joinL_cons{x:U8}{l:List (List UInt8)} (h:l≠[]):joinL (x::l)=x++47::joinL l:=by
 cases l with
 | nil=>exact absurd rfl h
 | cons y l=>simp[joinL,intercalate,intersperse]
theorem joinL_one (x:U8):joinL [x]=x:=by simp[joinL,intercalate]
theorem joinL_cc{c:UInt8}{p:U8}{ps:List (List UInt8)}:joinL ((c::p)::ps)=c::joinL (p::ps):=by
 cases ps with
 | nil=>rw[joinL_one,joinL_one]
 | cons y l=>rw[joinL_cons (x:=c::p) (l:=y::l) (by simp),joinL_cons (x:=p) (l:=y::l) (by simp)];rfl
theorem joinL_splitL:∀s,joinL (splitL s)=s
 | []=>by rw[splitL,joinL_one]
 | c::s=>by
  have ih:=joinL_splitL s
  rw[splitL]
  split
  ·rename_i h
   rw[joinL_cons (splitL_ne s),ih,h]
   rfl
  ·split
   ·rename_i h
    exact absurd h (splitL_ne s)
   ·rename_i p ps h
    rw[h] at ih
    rw[joinL_cc,ih]
theorem joinL_partsL (s:U8):joinL (partsL s)=s:=by
 unfold partsL
 split
 ·rename_i h;rw[h];rfl
 ·exact joinL_splitL s
theorem splitL_word:∀{p:U8},47∉p→splitL p=[p]
 | [],_=>rfl
 | c::p,h=>by
  have h1:c≠47:=fun e=>h (by simp[e])
  rw[splitL,if_neg h1,splitL_word (p:=p) (fun e=>h (by simp[e]))]
theorem splitL_app:∀{p s:U8},47∉p→splitL (p++47::s)=p::splitL s
 | [],s,_=>by rw[nil_append,splitL,if_pos rfl]
 | c::p,s,h=>by
  have h1:c≠47:=fun e=>h (by simp[e])
  rw[cons_append,splitL,if_neg h1,splitL_app (p:=p) (fun e=>h (by simp[e]))]
theorem isName_slash{p:U8} (h:isName p=true):47∉p:=fun hm=>by
 simp only[isName,Bool.and_eq_true,Bool.not_eq_true'] at h
 have:=any_eq_true.2 ⟨47,hm,(by decide:badCh 47=true)⟩
 rw[h.2] at this
 cases this
theorem isName_facts{p:U8} (h:isName p=true):p≠[]∧p≠[46]∧p≠[46,46]:=by
 simp only[isName,Bool.and_eq_true,decide_eq_true_eq] at h
 refine⟨fun e=>?_,h.1.2.2.1,h.1.2.2.2⟩
 rw[e] at h
 simp at h
theorem splitL_joinL:∀{row:List (List UInt8)},row≠[]→Named row→splitL (joinL row)=row
 | [x],_,h=>by rw[joinL_one,splitL_word (isName_slash (h x (by simp)))]
 | x::y::l,_,h=>by
  rw[joinL_cons (by simp),splitL_app (isName_slash (h x (by simp))),splitL_joinL (row:=y::l) (by simp) (fun p hp=>h p (by simp at hp⊢;exact .inr hp))]
theorem partsL_joinL{row:List (List UInt8)} (h:Named row):partsL (joinL row)=row:=by
 cases row with
 | nil=>rfl
 | cons x l=>
  have hx:=isName_facts (h x (by simp))
  have hne:joinL (x::l)≠[]:=by
   cases l with
   | nil=>rw[joinL_one];exact hx.1
   | cons y l=>rw[joinL_cons (by simp)];simp
  unfold partsL
  rw[if_neg hne]
  exact splitL_joinL (by simp) h
def splitR (p:(List UInt8)):(List UInt8)×(List UInt8)×Int:=
 if isCleanL p=false then ([],[],31) else if partsL p=[] then ([],[],32) else (joinL (partsL p).dropLast,(partsL p).getLastD [],0)
theorem partsL_nil{s:U8} (h:partsL s=[]):s=[]:=by
 have:=joinL_partsL s
 rw[h] at this
 exact this.symm
theorem clean_named{p:U8} (h:isCleanL p=true):Named (partsL p)∧(partsL p).length≤32:=by
 simp only[isCleanL,Bool.and_eq_true,decide_eq_true_eq,all_eq_true] at h
 exact h
theorem named_clean{row:List (List UInt8)} (h:Named row) (hl:row.length≤32):isCleanL (joinL row)=true∧partsL (joinL row)=row:=by
 have e:=partsL_joinL h
 refine⟨?_,e⟩
 simp only[isCleanL,Bool.and_eq_true,decide_eq_true_eq,all_eq_true,e]
 exact⟨h,hl⟩
theorem clean_len{p:U8} (h:isCleanL p=true):p.length≤2080:=by
 have ob:=clean_named h
 obtain⟨h1,h2⟩:=ob
 have h3:=join_len (partsL p)
 have h4:=named_join h1
 rw[joinL_partsL] at h3
 omega
theorem refLessP_spec{s t:U8} (w0:World) (hs1:s.length<4294967281) (ht1:t.length<4294967281):CP 150 #[str s,str t] w0 (Ret0 (.bool (lessP s t)) w0):=refLess_spec w0 hs1 ht1
theorem OwnSl.front{E j:Nat}{ps:List (List UInt8)}{Lv:OL}{a:Option Addr}{c:Nat} (h:OwnSl E 1 (.slice a ps.length c) ps.length (strs ps) Lv) (hj:j≤ps.length) (h0:0<ps.length):OwnSl E 1 (.slice a j c) j (strs (ps.take j)) Lv:=by
 have ob:=h.some1 h0
 obtain⟨b,cap,more,hq,hL,hc⟩:=ob
 cases hq
 have e:strs ps=strs (ps.take j)++strs (ps.drop j):=by
  unfold strs
  rw[←map_append,take_append_drop]
 refine⟨by rw[strs_len,length_take];omega,.inr ⟨b,c,strs (ps.drop j)++more,rfl,?_,?_⟩⟩
 ·rw[hL,e,append_assoc]
 ·rw[←append_assoc,←e]
  exact hc
theorem parent_spec{p:List UInt8} (w0:World) (hcl:isCleanL p=true) (hp0:p≠[]):CP 151 #[str p] w0 (Ret0 (str (splitR p).1) w0):=by
 have hs:Step [] [] w0 w0:=Step.refl w0
 have hpl:=clean_len hcl
 have h0:partsL p≠[]:=fun h=>hp0 (partsL_nil h)
 have ob:=clean_named hcl
 obtain⟨hnm,hn32⟩:=ob
 have e:(splitR p).1=joinL (partsL p).dropLast:=by
  unfold splitR
  rw[hcl,if_neg (by simp),if_neg h0]
 rw[e]
 have ob:∃ps,partsL p=ps:=⟨_,rfl⟩
 obtain⟨ps,hps⟩:=ob
 have hpt:=fun w=>refParts_spec (s:=p) w (by omega)
 simp only[hps] at hpt
 rw[hps] at h0 hnm hn32⊢
 have hl0:0<ps.length:=length_pos_iff.2 h0
 have hdl:ps.dropLast=ps.take (ps.length - 1):=dropLast_eq_take
 rw[hdl]
 have hsum:((ps.take (ps.length - 1)).map fun x=>x.length+1).sum≤9000000:=by
  have hgo:∀(l:List (List UInt8)),(∀x∈l,x.length≤64)→(l.map fun x=>x.length+1).sum≤l.length*65:=by
   intro l
   induction l with
   | nil=>intro _;simp
   | cons a l ih=>
    intro h
    have h1:=h a (by simp)
    have h2:=ih fun x hx=>h x (by simp[hx])
    simp only[map_cons,sum_cons,length_cons]
    omega
  have h1:=hgo (ps.take (ps.length - 1)) fun x hx=>isName_le (hnm x (mem_of_mem_take hx))
  rw[length_take] at h1
  omega
 refine calls (n:=12) Tryz.func151 rfl rfl rfl ?_
 refine sr<|wA<|wZ<|sr<|wm<|wE rfl (run_call en154 rfl rfl) (hpt _) ?_
 rintro e w ⟨u,Lu,rfl,hu,hq⟩
 refine⟨_,rfl,?_⟩
 have hs1:Step [] Lu w0 w:=hq
 replace hs:=hs1
 have hfu:=hu.form
 obtain⟨au,cu,hfe⟩:=hfu
 subst hfe
 refine wA<|wZ ?_
 have ob:=hu.some1 hl0
 obtain⟨b,cap,more,hqq,hL,hc⟩:=ob
 have hqq2:=hqq
 injection hqq2 with e1 e2 e3
 have hcap:ps.length - 1≤cu:=by
  rw[length_append,strs_len] at hc
  omega
 have hle:(ps.take (ps.length - 1)).length=ps.length - 1:=by rw[length_take];omega
 have hf:=OwnSl.front hu (Nat.sub_le ps.length 1) hl0
 subst e1
 have hpa:=fun {w} (hw:Step (Lu.map (·.1)) Lu w w)=>refPath_spec (u:=.slice (some ⟨b,0,none⟩) (ps.length - 1) cu) (ps:=ps.take (ps.length - 1)) w (by rw[hle];exact hf) hw hsum
 refine sr<|wm<|wm<|wV (run_lenSl u256 rfl)<|wV (run_sub (c:=((ps.length - 1:Nat):Int)) rfl rfl (by omega) (by omega))<|wV (run_sliceSl0 (hi:=ps.length - 1) (m:=cu) u256 ty9 rfl rfl rfl (by simp) (by omega) (Nat.le_refl _))<|wE rfl (run_call en184 rfl rfl) (hpa hs.own1) ?_
 rintro e w ⟨rfl,hq⟩
 refine⟨_,rfl,?_⟩
 replace hs:=hs.callE hq
 refine wA<|wZ<|CW.ret ?_
 refine fin_ret1 rfl ?_
 exact⟨rfl,hs.clear⟩
theorem up_len{p:U8} (hcl:isCleanL p=true) (hp0:p≠[]):(splitR p).1.length≤2080:=by
 have h0:partsL p≠[]:=fun h=>hp0 (partsL_nil h)
 have ob:=clean_named hcl
 obtain⟨hnm,hn32⟩:=ob
 have e:(splitR p).1=joinL (partsL p).dropLast:=by
  unfold splitR
  rw[hcl,if_neg (by simp),if_neg h0]
 have hd:(partsL p).dropLast.length=(partsL p).length - 1:=length_dropLast
 rw[e]
 exact clean_len (named_clean (row:=(partsL p).dropLast) (fun x hx=>hnm x ((dropLast_sublist _).subset hx)) (by omega)).1
def bC8 (B:List Nat):List Value:=B.map fun z=>.int .i64 (z:Nat)
theorem findS_spec{b o c i:Nat}{ps:List (List UInt8)}{p:U8} (w0:World) (hi:ps.length=i) (hil:i≤65536) (hc:i≤c) (hcell:∀(j:Nat) q,ps[j]?=some q→w0.cell? ⟨b,o+j*3,none⟩=some (str q)) (hl:∀q∈ps,q.length≤4096) (hpl:p.length≤4096) :
  CP 152 #[.slice (some ⟨b,o,none⟩) i c,str p] w0 fun e w'=>∃r:Int,e=.returned (.int .i64 r)∧(r = -1∨∃k:Nat,k<i∧r=k)∧Step [] [] w0 w':=by
 have hs:Step [] [] w0 w0:=Step.refl w0
 have hcl:=fun {L w j q} (hs:Step [] L w0 w) (hj:ps[j]?=some q)=>keepCell (hcell j q hj) hs
 have hls:=fun w q (hq:q∈ps)=>refLessP_spec (s:=q) (t:=p) w (by have:=hl q hq;omega) (by omega)
 refine calls (n:=41) Tryz.func152 rfl rfl rfl ?_
 refine sr<|wA<|wZ<|sr<|wA<|wZ<|sr<|wm<|wL u65 rfl<|wA<|wZ ?_
 refine cq<|cB<|CW.loop (fun z f w=>∃lo hi:Nat,lo≤hi∧hi≤i∧z=hi - lo∧Step [] [] w0 w∧Holds f [(0,.slice (some ⟨b,o,none⟩) i c),(1,str p),(5,.int .i64 lo),(6,.int .i64 hi)]) (m:=i) ?_ ?_
 ·exact⟨0,i,by omega,by omega,rfl,hs,rfl,rfl,rfl,rfl,trivial⟩
 clear hs
 rintro z f w ⟨lo,hi2,h2,h3,rfl,hs,hf⟩
 have ob:=hf.chain
 obtain⟨g,rfl⟩:=ob
 by_cases hlh:lo<hi2
 ·have ob:∃q,ps[(lo+hi2) / 2]?=some q:=⟨_,getElem?_eq_getElem (by omega)⟩
  obtain⟨q,hq⟩:=ob
  have hlq:=fun w=>hls w q (mem_of_getElem? hq)
  have hcq:=fun {L w} (hs:Step [] L w0 w)=>hcl hs hq
  have ob:∃lb,lessP q p=lb:=⟨_,rfl⟩
  obtain⟨lb,hlb⟩:=ob
  simp only[hlb] at hlq
  refine cq<|sr<|wm<|wm<|lT<|wZ<|CW.cond rfl (fun h=>?_) (fun h=>?_)
  ·refine ck<|cB<|sr<|wm<|wm<|wP ((lo+hi2:Nat):Int)<|wV (run_quoN (n:=lo+hi2) (m:=2) rfl rfl (by decide) (by omega))<|wA<|wZ ?_
   cases lb with
   | true=>
    refine sr<|wm<|wm<|wI u65 ty155 rfl rfl<|wF 0 u155 rfl ty9 rfl<|wl ty9 rfl (hcq hs)<|wm<|wE rfl (run_call en150 rfl rfl) (hlq _) ?_
    rintro e w ⟨rfl,hq⟩
    refine⟨_,rfl,?_⟩
    replace hs:=hs.callE hq
    refine wZ<|CW.cond rfl (fun hc2=>?_) (fun hc2=>?_)
    ·skip
     refine cr<|wm<|wP (((lo+hi2) / 2+1:Nat):Int)<|wA<|wZ<|(show _∧_ from⟨rfl,_,?_,(lo+hi2) / 2+1,hi2,by omega,by omega,rfl,hs,rfl,rfl,rfl,rfl,trivial⟩)
     omega
    ·cases hc2
   | false=>
    refine sr<|wm<|wm<|wI u65 ty155 rfl rfl<|wF 0 u155 rfl ty9 rfl<|wl ty9 rfl (hcq hs)<|wm<|wE rfl (run_call en150 rfl rfl) (hlq _) ?_
    rintro e w ⟨rfl,hq⟩
    refine⟨_,rfl,?_⟩
    replace hs:=hs.callE hq
    refine wZ<|CW.cond rfl (fun hc2=>?_) (fun hc2=>?_)
    ·cases hc2
    refine cr<|wm<|wA<|wZ<|(show _∧_ from⟨rfl,_,?_,lo,(lo+hi2) / 2,by omega,by omega,rfl,hs,rfl,rfl,rfl,rfl,trivial⟩)
    omega
  ·cases h
 ·refine cq<|sr<|wm<|wm<|lF<|wZ<|CW.cond rfl (fun h=>?_) (fun h=>?_)
  ·cases h
  refine CW.exit<|cq<|cq ?_
  by_cases hli:lo<i
  ·have ob:∃q,ps[lo]?=some q:=⟨_,getElem?_eq_getElem (by omega)⟩
   obtain⟨q,hq⟩:=ob
   by_cases hqp:q=p
   ·skip
    refine cr<|wm<|wm<|wL u65 rfl<|lT<|wm<|wy<|wm<|wy<|wm ?_
    refine wy ?_;(first | refine WL.val rfl (run_ixSlN u65 ty155 rfl rfl (by omega)) ?_ | refine WL.val rfl (run_ixSl u65 ty155 rfl rfl (by omega)) ?_)
    refine wy<|wF 0 u155 rfl ty9 rfl<|wy<|wl ty9 rfl (hcl hs hq)<|wy<|wm<|wy<|wV (run_bT (run_strEq rfl rfl) (by exact hqp))<|pT<|wZ<|CW.cond rfl (fun h=>?_) (fun h=>?_)
    ·refine sr<|wm<|wA<|wZ<|CW.ret ?_
     refine fin_ret1 rfl ?_
     exact⟨_,rfl,.inr ⟨lo,hli,rfl⟩,hs⟩
    ·cases h
   ·skip
    refine cr<|wm<|wm<|wL u65 rfl<|lT<|wm<|wy<|wm<|wy<|wm ?_
    refine wy ?_;(first | refine WL.val rfl (run_ixSlN u65 ty155 rfl rfl (by omega)) ?_ | refine WL.val rfl (run_ixSl u65 ty155 rfl rfl (by omega)) ?_)
    refine wy<|wF 0 u155 rfl ty9 rfl<|wy<|wl ty9 rfl (hcl hs hq)<|wy<|wm<|wy<|wV (run_bF (run_strEq rfl rfl) (by exact hqp))<|pT<|wZ<|CW.cond rfl (fun h=>?_) (fun h=>?_)
    ·cases h
    refine ck<|sr<|wA<|wZ<|CW.ret ?_
    refine fin_ret1 rfl ?_
    exact⟨_,rfl,.inl rfl,hs⟩
  ·skip
   refine cr<|wm<|wm<|wL u65 rfl<|lF<|wm<|wz<|wz<|wz<|wz<|wz<|wz<|wz<|pF<|wZ ?_
   refine CW.cond rfl (fun h=>?_) (fun h=>?_)
   ·cases h
   refine ck<|sr<|wA<|wZ<|CW.ret ?_
   refine fin_ret1 rfl ?_
   exact⟨_,rfl,.inl rfl,hs⟩
def GoodIt (x:It):Prop:=isCleanL x.p=true∧x.p≠[]∧x.x.length≤1048576
set_option maxHeartbeats 8000000 in
theorem isTreeS_spec{v:Value}{l:List It} (w0:World) (hl:Its w0 v l) (hpl:∀x∈l,x.p.length<4294967281) (hroom:Room v) :
  CP 108 #[v] w0 fun e w'=>∃b,e=.returned (.bool b)∧(b=true→l.length<65536∧∀x∈l,GoodIt x)∧Step [] [] w0 w':=by
 have hs:Step [] [] w0 w0:=Step.refl w0
 have ob:=hl.sl.form
 obtain⟨av,cv,rfl⟩:=ob
 have hlen:=hl.len
 have hrm:l.length≤cv:=hroom
 by_cases hbig:65536≤l.length
 ·refine calls (n:=105) Tryz.func108 rfl rfl rfl ?_
  refine sr<|wA<|wZ<|cq<|sr<|wm<|wL u65 rfl<|jT<|wZ<|CW.cond rfl (fun h=>?_) (fun h=>?_)
  ·refine sr<|wA<|wZ<|CW.ret ?_
   refine fin_ret1 rfl ?_
   exact⟨false,rfl,(fun h=>by cases h),hs⟩
  ·cases h
 have ob:∃n,l.length=n:=⟨_,rfl⟩
 obtain⟨n,hn⟩:=ob
 rw[hn] at hbig hlen
 refine calls (n:=105) Tryz.func108 rfl rfl rfl ?_
 refine sr<|wA<|wZ<|cq<|sr<|wm<|wL u65 rfl<|jF<|wZ<|CW.cond rfl (fun h=>?_) (fun h=>?_)
 ·cases h
 refine ck<|sr<|wA<|wZ<|sr<|wm<|wL u65 rfl<|wP ((l.length+1:Nat):Int)<|WL.makeSlice (k:=l.length+1) u25 ty3 rfl (by omega) (by omega) rfl rfl rfl hs (fun b15 w hs=>?_)
 refine wA<|wZ<|cq<|sr<|wA<|wZ ?_
 have hB0:bC8 (List.replicate (l.length+1) 0)=List.replicate (l.length+1) (.int .i64 0):=by rw[bC8,map_replicate];rfl
 refine cB<|CW.loop (fun z f w=>∃i tot B,i≤n∧z=n - i∧(∀j y,j<i→l[j]?=some y→GoodIt y)∧tot≤i*1048576∧B.length=n+1∧(∀q∈B,q≤1024)∧Step [] [(b15,blk 3 (bC8 B))] w0 w∧Holds f [(0,.slice av l.length cv),(3,.int .i64 (tot:Nat)),(4,.slice (some ⟨b15,0,none⟩) (l.length+1) (l.length+1)),(5,.int .i64 (i:Nat))]) (m:=n) ?_ ?_
 ·refine⟨0,0,List.replicate (l.length+1) 0,by omega,by omega,fun j y hj=>by omega,by omega,by simp[hn],fun q hq=>?_,?_,rfl,rfl,rfl,rfl,trivial⟩
  ·rw[(mem_replicate.1 hq).2];omega
  ·rw[hB0]
   have e0:(List.replicate (l.length+1) [Value.int IntKind.i64 0]).flatten=List.replicate (l.length+1) (Value.int IntKind.i64 0):=by simp
   rw[←e0];exact hs
 clear hs
 rintro z f w ⟨i,tot,B,hi,rfl,hgood,htot,hBl,hB,hs,hf⟩
 have ob:=hf.chain
 obtain⟨g,rfl⟩:=ob
 have hbl:(bC8 B).length=n+1:=by rw[bC8,length_map,hBl]
 by_cases hlt:i<n
 ·have ob:∃x,l[i]?=some x:=⟨_,getElem?_eq_getElem (by omega)⟩
  obtain⟨x,hx⟩:=ob
  have hxm:=mem_of_getElem? hx
  have hxo:=hl.ok x hxm
  have hxl:=hpl x hxm
  have hxc:=It.cells1 hxo
  have ob:=hl.at hx
  obtain⟨bl,ol,cl,hc0,hat0⟩:=ob
  have hc1:=hc0
  injection hc1 with hav _ _
  have hrow:∀{j:Nat}{y:It},l[j]?=some y→At w0 bl (ol+j*3) (itC y.p y.d y.v):=fun {j y} hy=>by
   have ob:=hl.at hy
   obtain⟨b',o',c',h1,h2⟩:=ob
   rw[hc0] at h1
   cases h1
   exact h2
  clear hat0 hc0
  subst hav
  have ob:=hxo.hb.form
  obtain⟨ax,cx,hvx⟩:=ob
  have hev:(itC x.p x.d x.v)[0+2]?=some (.slice ax x.x.length cx):=by show some x.v=_;rw[hvx]
  have hcl1:=fun w=>refIsClean_spec (s:=x.p) w hxl
  have ob:∃b,isCleanL x.p=b:=⟨_,rfl⟩
  obtain⟨icl,hicl⟩:=ob
  simp only[hicl] at hcl1
  have hlb:=hxo.lb
  refine cq<|sr<|wm<|wm<|wL u65 rfl<|lT<|wZ<|CW.cond rfl (fun h=>?_) (fun h=>?_)
  ·refine ck<|cq<|cB<|sr<|wm<|wm<|wI u65 ty155 rfl rfl<|wR ty155 rfl rfl ((hrow hx).step hs (by simp))<|WL.alloc ty155 rfl hs (fun b6 w hs=>?_)
   refine WL.storeAll ty155 rfl rfl ((rfl)) (hxc) hs (by rfl) (fun w hs=>?_)
   refine wZ<|CW.seqM (fun f w=>isCleanL x.p=true∧x.p≠[]∧Step [] [(b6,blk 155 (itC x.p x.d x.v)),(b15,blk 3 (bC8 B))] w0 w∧Holds f [(0,.slice (some ⟨bl,ol,none⟩) l.length cv),(3,.int .i64 (tot:Nat)),(4,.slice (some ⟨b15,0,none⟩) (l.length+1) (l.length+1)),(5,.int .i64 (i:Nat)),(6,pt b6)]) ?_ ?_
   ·by_cases hp:x.p=[]
    ·refine cq<|CW.quiet mixedP (by kernel_rfl) hs ?_
     refine qF 0 u155 rfl ty9 rfl<|qL ty9 rfl (fun w hs=>hs.c0 (v:=str x.p) rfl)<|qV (fun w hs=>run_bT (run_strEq rfl rfl) (by exact hp))<|qm<|qz<|qz<|qz<|qz<|qT<|qm<|qz<|qz<|qz<|qz ?_
     refine qz<|qz<|qz<|qz<|qz<|qz<|qz<|qz<|qz<|qz<|qT<|QL.nil (fun w hs=>?_)
     refine CW.cond rfl (fun h=>?_) (fun h=>?_)
     ·refine sr<|wA<|wZ<|CW.ret ?_
      refine fin_ret1 rfl ?_
      exact⟨false,rfl,(fun h=>by cases h),hs.clear⟩
     ·cases h
    by_cases hic:icl=true
    case neg=>
     have hic:icl=false:=by simpa using hic
     subst hic
     refine cq<|CW.quiet mixedP (by kernel_rfl) hs ?_
     refine qF 0 u155 rfl ty9 rfl<|qL ty9 rfl (fun w hs=>hs.c0 (v:=str x.p) rfl)<|qV (fun w hs=>run_bF (run_strEq rfl rfl) (by exact hp))<|qm<|qy<|qF 0 u155 rfl ty9 rfl<|qy<|qL ty9 rfl (fun w hs=>hs.c0 (v:=str x.p) rfl)<|qy<|QL.enter rfl (fun w=>run_call en149 rfl rfl) (fun w hs=>hcl1 _) ?_
     refine qy ?_;(first | refine QL.val rfl (fun w hs=>run_notB rfl) ?_ | refine QL.val rfl (fun w hs=>run_not rfl) ?_)
     refine qP<|qm<|qz<|qz<|qz<|qz<|qz<|qz<|qz<|qz<|qz<|qz<|qz<|qz ?_
     refine qz<|qz<|qT<|QL.nil (fun w hs=>?_)
     refine CW.cond rfl (fun h=>?_) (fun h=>?_)
     ·refine sr<|wA<|wZ<|CW.ret ?_
      refine fin_ret1 rfl ?_
      exact⟨false,rfl,(fun h=>by cases h),hs.clear⟩
     ·cases h
    subst hic
    by_cases hi0:i=0
    ·refine cq<|CW.quiet mixedP (by kernel_rfl) hs ?_
     refine qF 0 u155 rfl ty9 rfl<|qL ty9 rfl (fun w hs=>hs.c0 (v:=str x.p) rfl)<|qV (fun w hs=>run_bF (run_strEq rfl rfl) (by exact hp))<|qm<|qy<|qF 0 u155 rfl ty9 rfl<|qy<|qL ty9 rfl (fun w hs=>hs.c0 (v:=str x.p) rfl)<|qy<|QL.enter rfl (fun w=>run_call en149 rfl rfl) (fun w hs=>hcl1 _) ?_
     refine qy ?_;(first | refine QL.val rfl (fun w hs=>run_notB rfl) ?_ | refine QL.val rfl (fun w hs=>run_not rfl) ?_)
     refine qP<|qm<|qy<|qm<|qy<|qV (fun w hs=>run_bF (run_gtr rfl rfl) (by omega))<|qy<|qm<|qz<|qz<|qz<|qz<|qz<|qz ?_
     refine qz<|qz<|qz<|qz ?_
     refine qy ?_;(first | refine QL.val rfl (fun w hs=>run_pickT rfl) ?_ | refine QL.val rfl (fun w hs=>run_pickF rfl) ?_)
     refine qP<|QL.nil (fun w hs=>?_)
     refine CW.cond rfl (fun h=>?_) (fun h=>?_)
     ·cases h
     refine ck ?_
     exact⟨rfl,hicl,hp,hs,rfl,rfl,rfl,rfl,rfl,trivial⟩
    ·have ob:∃y,l[i - 1]?=some y:=⟨_,getElem?_eq_getElem (by omega)⟩
     obtain⟨y,hy⟩:=ob
     have hxl2:=clean_len hicl
     have hyl2:=clean_len (hgood (i - 1) y (by omega) hy).1
     have hless:=fun w=>refLessP_spec (s:=y.p) (t:=x.p) w (by omega) (by omega)
     have ob:∃b,lessP y.p x.p=b:=⟨_,rfl⟩
     obtain⟨ls,hls⟩:=ob
     simp only[hls] at hless
     have hyc:=fun {L' w} (hs:Step [] L' w0 w)=>((hrow hy).step hs (by simp)).cell (j:=0) (v:=str y.p) rfl
     by_cases hlt2:ls=true
     ·subst hlt2
      refine cq<|CW.quiet mixedP (by kernel_rfl) hs ?_
      refine qF 0 u155 rfl ty9 rfl<|qL ty9 rfl (fun w hs=>hs.c0 (v:=str x.p) rfl)<|qV (fun w hs=>run_bF (run_strEq rfl rfl) (by exact hp))<|qm<|qy<|qF 0 u155 rfl ty9 rfl<|qy<|qL ty9 rfl (fun w hs=>hs.c0 (v:=str x.p) rfl)<|qy<|QL.enter rfl (fun w=>run_call en149 rfl rfl) (fun w hs=>hcl1 _) ?_
      refine qy ?_;(first | refine QL.val rfl (fun w hs=>run_notB rfl) ?_ | refine QL.val rfl (fun w hs=>run_not rfl) ?_)
      refine qP<|qm<|qy<|qm<|qy<|qV (fun w hs=>run_bT (run_gtr rfl rfl) (by omega))<|qy<|qm<|qy<|qm<|qy<|qm<|qy<|qV (fun w hs=>run_sub (c:=((i - 1:Nat):Int)) rfl rfl (by omega) (by omega)) ?_
      refine qy ?_;(first | refine QL.val rfl (fun w hs=>run_ixSlN u65 ty155 rfl rfl (by omega)) ?_ | refine QL.val rfl (fun w hs=>run_ixSl u65 ty155 rfl rfl (by omega)) ?_)
      refine qy<|qF 0 u155 rfl ty9 rfl<|qy<|qL ty9 rfl (fun w hs=>hyc hs)<|qy<|qF 0 u155 rfl ty9 rfl<|qy<|qL ty9 rfl (fun w hs=>hs.c0 (v:=str x.p) rfl)<|qy<|QL.enter rfl (fun w=>run_call en150 rfl rfl) (fun w hs=>hless _) ?_
      refine qy ?_;(first | refine QL.val rfl (fun w hs=>run_notB rfl) ?_ | refine QL.val rfl (fun w hs=>run_not rfl) ?_)
      refine qy ?_;(first | refine QL.val rfl (fun w hs=>run_pickT rfl) ?_ | refine QL.val rfl (fun w hs=>run_pickF rfl) ?_)
      refine qP<|QL.nil (fun w hs=>?_)
      refine CW.cond rfl (fun h=>?_) (fun h=>?_)
      ·cases h
      refine ck ?_
      exact⟨rfl,hicl,hp,hs,rfl,rfl,rfl,rfl,rfl,trivial⟩
     ·have hlt2:ls=false:=by simpa using hlt2
      subst hlt2
      refine cq<|CW.quiet mixedP (by kernel_rfl) hs ?_
      refine qF 0 u155 rfl ty9 rfl<|qL ty9 rfl (fun w hs=>hs.c0 (v:=str x.p) rfl)<|qV (fun w hs=>run_bF (run_strEq rfl rfl) (by exact hp))<|qm<|qy<|qF 0 u155 rfl ty9 rfl<|qy<|qL ty9 rfl (fun w hs=>hs.c0 (v:=str x.p) rfl)<|qy<|QL.enter rfl (fun w=>run_call en149 rfl rfl) (fun w hs=>hcl1 _) ?_
      refine qy ?_;(first | refine QL.val rfl (fun w hs=>run_notB rfl) ?_ | refine QL.val rfl (fun w hs=>run_not rfl) ?_)
      refine qP<|qm<|qy<|qm<|qy<|qV (fun w hs=>run_bT (run_gtr rfl rfl) (by omega))<|qy<|qm<|qy<|qm<|qy<|qm<|qy<|qV (fun w hs=>run_sub (c:=((i - 1:Nat):Int)) rfl rfl (by omega) (by omega)) ?_
      refine qy ?_;(first | refine QL.val rfl (fun w hs=>run_ixSlN u65 ty155 rfl rfl (by omega)) ?_ | refine QL.val rfl (fun w hs=>run_ixSl u65 ty155 rfl rfl (by omega)) ?_)
      refine qy<|qF 0 u155 rfl ty9 rfl<|qy<|qL ty9 rfl (fun w hs=>hyc hs)<|qy<|qF 0 u155 rfl ty9 rfl<|qy<|qL ty9 rfl (fun w hs=>hs.c0 (v:=str x.p) rfl)<|qy<|QL.enter rfl (fun w=>run_call en150 rfl rfl) (fun w hs=>hless _) ?_
      refine qy ?_;(first | refine QL.val rfl (fun w hs=>run_notB rfl) ?_ | refine QL.val rfl (fun w hs=>run_not rfl) ?_)
      refine qy ?_;(first | refine QL.val rfl (fun w hs=>run_pickT rfl) ?_ | refine QL.val rfl (fun w hs=>run_pickF rfl) ?_)
      refine qP<|QL.nil (fun w hs=>?_)
      refine CW.cond rfl (fun h=>?_) (fun h=>?_)
      ·refine sr<|wA<|wZ<|CW.ret ?_
       refine fin_ret1 rfl ?_
       exact⟨false,rfl,(fun h=>by cases h),hs.clear⟩
      ·cases h
   clear hs
   rintro f w ⟨hic,hp,hs,hf⟩
   have hxl2:=clean_len hic
   refine CW.seqM (fun f w=>x.x.length≤1048576∧Step [] [(b6,blk 155 (itC x.p x.d x.v)),(b15,blk 3 (bC8 B))] w0 w∧Holds f [(0,.slice (some ⟨bl,ol,none⟩) l.length cv),(3,.int .i64 (tot:Nat)),(4,.slice (some ⟨b15,0,none⟩) (l.length+1) (l.length+1)),(5,.int .i64 (i:Nat)),(6,pt b6)]) ?_ ?_
   ·have ob:=hf.chain
    obtain⟨g,rfl⟩:=ob
    by_cases hd:x.d=true
    ·by_cases h0:0<x.x.length
     ·refine sr<|wF 1 u155 rfl ty4 rfl<|wl ty4 rfl (hs.c0 (v:=.bool true) (by show some (Value.bool x.d)=_;rw[hd]))<|wm<|wy<|wF 2 u155 rfl ty76 rfl<|wy<|wl ty76 rfl (hs.c0 (v:=.slice ax x.x.length cx) hev)<|wy<|wL u76 rfl<|wy<|xT<|pT<|wm<|wz<|wz<|wz<|wz<|pT<|wZ ?_
      refine CW.cond rfl (fun h=>?_) (fun h=>?_)
      ·refine sr<|wA<|wZ<|CW.ret ?_
       refine fin_ret1 rfl ?_
       exact⟨false,rfl,(fun h=>by cases h),hs.clear⟩
      ·cases h
     ·have h6:x.x.length≤1048576:=by omega
      refine sr<|wF 1 u155 rfl ty4 rfl<|wl ty4 rfl (hs.c0 (v:=.bool true) (by show some (Value.bool x.d)=_;rw[hd]))<|wm<|wy<|wF 2 u155 rfl ty76 rfl<|wy<|wl ty76 rfl (hs.c0 (v:=.slice ax x.x.length cx) hev)<|wy<|wL u76 rfl<|wy<|xF<|pT<|wm ?_
      refine wy<|wF 2 u155 rfl ty76 rfl<|wy<|wl ty76 rfl (hs.c0 (v:=.slice ax x.x.length cx) hev)<|wy<|wL u76 rfl<|wy<|xF<|pF<|wZ<|CW.cond rfl (fun h=>?_) (fun h=>?_)
      ·cases h
      refine ck ?_
      exact⟨rfl,h6,hs,rfl,rfl,rfl,rfl,rfl,trivial⟩
    ·have hd2:x.d=false:=by simpa using hd
     by_cases h0:1048576<x.x.length
     ·refine sr<|wF 1 u155 rfl ty4 rfl<|wl ty4 rfl (hs.c0 (v:=.bool false) (by show some (Value.bool x.d)=_;rw[hd2]))<|wm<|wz<|wz<|wz<|wz<|pF<|wm<|wy<|wF 2 u155 rfl ty76 rfl<|wy<|wl ty76 rfl (hs.c0 (v:=.slice ax x.x.length cx) hev) ?_
      refine wy<|wL u76 rfl<|wy<|xT<|pF<|wZ<|CW.cond rfl (fun h=>?_) (fun h=>?_)
      ·refine sr<|wA<|wZ<|CW.ret ?_
       refine fin_ret1 rfl ?_
       exact⟨false,rfl,(fun h=>by cases h),hs.clear⟩
      ·cases h
     ·have h6:x.x.length≤1048576:=by omega
      refine sr<|wF 1 u155 rfl ty4 rfl<|wl ty4 rfl (hs.c0 (v:=.bool false) (by show some (Value.bool x.d)=_;rw[hd2]))<|wm<|wz<|wz<|wz<|wz<|pF<|wm<|wy<|wF 2 u155 rfl ty76 rfl<|wy<|wl ty76 rfl (hs.c0 (v:=.slice ax x.x.length cx) hev) ?_
      refine wy<|wL u76 rfl<|wy<|xF<|pF<|wZ<|CW.cond rfl (fun h=>?_) (fun h=>?_)
      ·cases h
      refine ck ?_
      exact⟨rfl,h6,hs,rfl,rfl,rfl,rfl,rfl,trivial⟩
   clear hs hf
   rintro f w ⟨h6,hs,hf⟩
   have ob:=hf.chain
   obtain⟨g,rfl⟩:=ob
   have hpar:=fun w=>parent_spec (p:=x.p) w hic hp
   have ob:∃pu,(splitR x.p).1=pu:=⟨_,rfl⟩
   obtain⟨pu,hpu⟩:=ob
   have hpul:pu.length≤2080:=by rw[←hpu];exact up_len hic hp
   simp only[hpu] at hpar
   refine sr<|wm<|wF 2 u155 rfl ty76 rfl<|wl ty76 rfl (hs.c0 (v:=.slice ax x.x.length cx) hev)<|wL u76 rfl<|wP ((tot+x.x.length:Nat):Int)<|wA<|wZ<|sr<|wm<|wL u65 rfl<|wA<|wZ<|sr<|wF 0 u155 rfl ty9 rfl<|wl ty9 rfl (hs.c0 (v:=str x.p) rfl) ?_
   refine wE rfl (run_call en151 rfl rfl) (hpar _) ?_
   rintro e w ⟨rfl,hq⟩
   refine⟨_,rfl,?_⟩
   replace hs:=hs.callE hq
   refine wA<|wZ<|CW.seqM (fun f w=>∃a,a≤l.length∧Step [] [(b6,blk 155 (itC x.p x.d x.v)),(b15,blk 3 (bC8 B))] w0 w∧Holds f [(0,.slice (some ⟨bl,ol,none⟩) l.length cv),(3,.int .i64 ((tot+x.x.length:Nat):Int)),(4,.slice (some ⟨b15,0,none⟩) (l.length+1) (l.length+1)),(5,.int .i64 (i:Nat)),(7,.int .i64 (a:Nat))]) ?_ ?_
   ·by_cases hu0:pu=[]
    ·refine sr<|wm<|wV (run_bF (run_strNe rfl rfl) (by exact fun h=>h hu0))<|wZ<|CW.cond rfl (fun h=>?_) (fun h=>?_)
     ·cases h
     refine ck ?_
     exact⟨rfl,l.length,Nat.le_refl _,hs,rfl,rfl,rfl,rfl,rfl,trivial⟩
    have hcapn:i≤cv:=by omega
    have ob:∃ps,(l.take i).map (·.p)=ps:=⟨_,rfl⟩
    obtain⟨ps,hps⟩:=ob
    have hpsl:ps.length=i:=by rw[←hps,length_map,length_take];omega
    have hpsj:∀(j:Nat) q,ps[j]?=some q→∃y:It,j<i∧l[j]?=some y∧y.p=q:=fun j q hj=>by
     rw[←hps,getElem?_map,getElem?_take] at hj
     split at hj
     ·rename_i hji
      cases hq:l[j]? with
      | none=>rw[hq] at hj;cases hj
      | some y=>
       rw[hq] at hj
       exact⟨y,hji,rfl,by simpa using hj⟩
     ·cases hj
    have hfind:=fun {L' w} (hs:Step [] L' w0 w)=>findS_spec (b:=bl) (o:=ol) (c:=cv) (i:=i) (ps:=ps) (p:=pu) w hpsl (by omega) hcapn (fun j q hj=>by
     have ob:=hpsj j q hj
     obtain⟨y,hji,hy,hyp⟩:=ob
     rw[←hyp]
     exact((hrow hy).step hs (by simp)).cell (j:=0) rfl) (fun q hq=>by
     have ob:=mem_iff_getElem?.1 hq
     obtain⟨j,hj⟩:=ob
     have ob:=hpsj j q hj
     obtain⟨y,hji,hy,hyp⟩:=ob
     rw[←hyp]
     have:=clean_len (hgood j y hji hy).1
     omega) (by omega)
    refine sr<|wm<|wV (run_bT (run_strNe rfl rfl) (by exact hu0))<|wZ<|CW.cond rfl (fun h=>?_) (fun h=>?_)
    ·refine sr<|wm<|wm<|wV (run_sliceSl0 (hi:=i) (m:=cv) u65 ty155 rfl rfl rfl (by simp) (by omega) (Nat.le_refl _))<|wm<|wE rfl (run_call en152 rfl rfl) (hfind hs) ?_
     rintro e w ⟨r,rfl,hr,hq⟩
     refine⟨_,rfl,?_⟩
     replace hs:=hs.callE hq
     refine wA<|wZ ?_
     by_cases hr1:r = -1
     ·refine sr<|wm<|lT<|wm<|wz<|wz<|wz<|wz<|wz<|wz<|pT<|wZ<|CW.cond rfl (fun h2=>?_) (fun h2=>?_)
      ·refine sr<|wA<|wZ<|CW.ret ?_
       refine fin_ret1 rfl ?_
       exact⟨false,rfl,(fun h=>by cases h),hs.clear⟩
      ·cases h2
     ·have ob:∃k:Nat,k<i∧r=k:=hr.resolve_left hr1
      obtain⟨k,hk,rfl⟩:=ob
      have ob:∃y,l[k]?=some y:=⟨_,getElem?_eq_getElem (by omega)⟩
      obtain⟨y,hy⟩:=ob
      have hkc:=fun {L' w} (hs:Step [] L' w0 w)=>((hrow hy).step hs (by simp)).cell (j:=1) (v:=.bool y.d) rfl
      have ob:∃b,y.d=b:=⟨_,rfl⟩
      obtain⟨yd,hyd⟩:=ob
      simp only[hyd] at hkc
      cases yd with
      | true=>
       refine sr<|wm<|lF<|wm<|wy<|wm<|wy<|wm ?_
       refine wy ?_;(first | refine WL.val rfl (run_ixSlN u65 ty155 rfl rfl (by omega)) ?_ | refine WL.val rfl (run_ixSl u65 ty155 rfl rfl (by omega)) ?_)
       refine wy<|wF 1 u155 rfl ty4 rfl<|wy<|wl ty4 rfl (hkc hs) ?_
       refine wy ?_;(first | refine WL.val rfl (run_notB rfl) ?_ | refine WL.val rfl (run_not rfl) ?_)
       refine pF<|wZ<|CW.cond rfl (fun h2=>?_) (fun h2=>?_)
       ·cases h2
       refine ck ?_
       exact⟨rfl,k,by omega,hs,rfl,rfl,rfl,rfl,rfl,trivial⟩
      | false=>
       refine sr<|wm<|lF<|wm<|wy<|wm<|wy<|wm ?_
       refine wy ?_;(first | refine WL.val rfl (run_ixSlN u65 ty155 rfl rfl (by omega)) ?_ | refine WL.val rfl (run_ixSl u65 ty155 rfl rfl (by omega)) ?_)
       refine wy<|wF 1 u155 rfl ty4 rfl<|wy<|wl ty4 rfl (hkc hs) ?_
       refine wy ?_;(first | refine WL.val rfl (run_notB rfl) ?_ | refine WL.val rfl (run_not rfl) ?_)
       refine pF<|wZ<|CW.cond rfl (fun h2=>?_) (fun h2=>?_)
       ·refine sr<|wA<|wZ<|CW.ret ?_
        refine fin_ret1 rfl ?_
        exact⟨false,rfl,(fun h=>by cases h),hs.clear⟩
       ·cases h2
    ·cases h
   clear hs hf
   rintro f w ⟨a,ha,hs,hf⟩
   have ob:=hf.chain
   obtain⟨g,rfl⟩:=ob
   have ob:∃q,B[a]?=some q:=⟨_,getElem?_eq_getElem (by omega)⟩
   obtain⟨q,hq⟩:=ob
   have hq1024:=hB q (mem_of_getElem? hq)
   have hqc:(bC8 B)[0+a*1]?=some (.int .i64 (q:Nat)):=by rw[Nat.zero_add,Nat.mul_one,bC8,getElem?_map,hq];rfl
   have hset:(bC8 B).set (0+a*1) (.int .i64 ((q+1:Nat):Int))=bC8 (B.set a (q+1)):=by rw[Nat.zero_add,Nat.mul_one,bC8,bC8,map_set]
   have hqc2:(bC8 (B.set a (q+1)))[0+a*1]?=some (.int .i64 ((q+1:Nat):Int)):=by rw[Nat.zero_add,Nat.mul_one,bC8,getElem?_map,getElem?_set_self (by omega)];rfl
   replace hs:=hs.tail
   refine sr<|wm<|wm<|wI u25 ty3 rfl rfl<|wl ty3 rfl (hs.c0 hqc)<|wP ((q+1:Nat):Int)<|wI u25 ty3 rfl rfl<|ws1 ty3 rfl rfl (rfl) hs (fun w hs=>?_)
   refine wZ ?_
   replace hs:Step [] [(b15,blk 3 (bC8 (B.set a (q+1))))] w0 w:=by rw[←hset];exact hs
   by_cases hover:1024<q+1
   ·refine sr<|wm<|wm<|wI u25 ty3 rfl rfl<|wl ty3 rfl (hs.c0 hqc2)<|xT<|wZ<|CW.cond rfl (fun h=>?_) (fun h=>?_)
    ·refine sr<|wA<|wZ<|CW.ret ?_
     refine fin_ret1 rfl ?_
     exact⟨false,rfl,(fun h=>by cases h),hs.clear⟩
    ·cases h
   refine sr<|wm<|wm<|wI u25 ty3 rfl rfl<|wl ty3 rfl (hs.c0 hqc2)<|xF<|wZ<|CW.cond rfl (fun h=>?_) (fun h=>?_)
   ·cases h
   refine ck<|cr<|wm<|wP ((i+1:Nat):Int)<|wA<|wZ<|(show _∧_ from⟨rfl,_,?_,i+1,tot+x.x.length,B.set a (q+1),hlt,rfl,?_,by omega,by rw[length_set];exact hBl,?_,hs,rfl,rfl,rfl,rfl,trivial⟩)
   ·omega
   ·intro j y hj hy
    by_cases hji:j=i
    ·subst hji
     rw[hx] at hy
     obtain rfl:=Option.some.inj hy
     exact⟨hic,hp,h6⟩
    ·exact hgood j y (by omega) hy
   ·intro z hz
    rcases mem_or_eq_of_mem_set hz with hz | rfl
    ·exact hB z hz
    ·omega
  ·cases h
 ·obtain rfl:i=n:=by omega
  have hall:l.length<65536∧∀x∈l,GoodIt x:=⟨by omega,fun x hx=>by
   have ob:=mem_iff_getElem?.1 hx
   obtain⟨j,hj⟩:=ob
   exact hgood j x (by have:=(List.getElem?_eq_some_iff.1 hj).1;omega) hj⟩
  refine cq<|sr<|wm<|wm<|wL u65 rfl<|lF<|wZ<|CW.cond rfl (fun h=>?_) (fun h=>?_)
  ·cases h
  refine CW.exit<|sr<|wm<|wV (run_leq rfl rfl)<|wA<|wZ<|CW.ret ?_
  refine fin_ret1 rfl ?_
  exact⟨_,rfl,fun _=>hall,hs.clear⟩
end Go.Gx
namespace Go.Gx
open Go.Proofs Go.RowKit List
attribute [local irreducible] shaL cutD frontL
theorem enc_len{l:List Ent} (ho:Oks l) (hc:checkE l=0):(encB l).length≤1000000:=by
 have hlen:l.length≤1024:=by
  unfold checkE at hc
  split at hc
  ·cases hc
  ·omega
 have herr:errE [] l=0:=by
  unfold checkE at hc
  rwa [if_neg (by omega)] at hc
 have h1:=encB_len ho (fun x hx=>isName_len (errE_ok l [] herr x hx).2)
 have h2:=formB_len 1
 have h3:=formB_len l.length
 simp only[encB,length_append]
 omega
theorem OwnSl.slW{E:TypeId}{sz k:Nat}{v:Value}{xs:List Value}{Lv:OL}{w:World} (h:OwnSl E sz v k xs Lv) (hw:∀p∈Lv,w.heap[p.1]?=some p.2):Sl w sz v k xs:=by
 obtain⟨h1,⟨rfl,h0,rfl⟩ | ⟨b,cap,more,rfl,rfl,h3⟩⟩:=h
 ·have:xs=[]:=eq_nil_of_length_eq_zero (by rw[h1,h0];simp)
  subst this;subst h0;exact Sl.nil _ _ _
 ·exact Sl.mk h1 (At.of_blk (hw (b,blk E (xs++more)) (by simp))).left
theorem OwnSl.roomW{E:TypeId}{sz k:Nat}{v:Value}{xs:List Value}{Lv:OL} (h:OwnSl E sz v k xs Lv) (h0:0<sz):Room v:=by
 obtain⟨h1,⟨rfl,h0,rfl⟩ | ⟨b,cap,more,rfl,rfl,h3⟩⟩:=h
 ·exact Nat.zero_le _
 ·show k≤cap
  rw[length_append,h1] at h3
  exact Nat.le_of_mul_le_mul_right (by omega) h0
set_option maxHeartbeats 4000000 in
theorem digest6_spec{v:Value}{x:U8}{k:Nat} (w0:World) (hv:Sl w0 1 v x.length (u8s x)) (hsz:x.length<1099511627776) (hk1:1≤k) (hk:k≤32) :
  CP 110 #[.int .i64 (k:Nat),v] w0 (Ret0 (.agg (u8s (frontL x k)).toArray) w0):=by
 have hs:Step [] [] w0 w0:=Step.refl w0
 have hc:(cutD (shaL x) k).length=32:=by have h:=frontL_len (x:=x) hk;unfold frontL at h;exact h
 have e:frontL x k=cutD (shaL x) k:=by unfold frontL;rfl
 rw[e]
 have ob:∃d,cutD (shaL x) k=d:=⟨_,rfl⟩
 obtain⟨d,hd⟩:=ob
 have hcut:=fun w=>refCut_ok (d:=shaL x) (k:=k) (shaL_len x) hk1 hk w
 simp only[hd] at hcut
 rw[hd] at hc⊢
 have hdl:(u8s d).length=32:=by rw[u8s,length_map,hc]
 have ob:∃sh,shaL x=sh:=⟨_,rfl⟩
 obtain⟨sh,hsh⟩:=ob
 have hof:=fun {w} (h:Step [] [] w0 w)=>refOf_spec (x:=x) w (hv.step0 h) hsz
 simp only[hsh] at hof hcut
 refine calls (n:=15) Tryz.func110 rfl rfl rfl ?_
 refine sr<|WL.alloc ty44 rfl hs (fun b4 w hs=>?_)
 refine wZ<|sr<|wm<|wE rfl (run_call en156 rfl rfl) (hof hs.clear) ?_
 rintro e w ⟨rfl,hq⟩
 refine⟨_,rfl,?_⟩
 replace hs:=hs.callE hq
 refine wm<|wE rfl (run_call en155 rfl rfl) (hcut _) ?_
 rintro e w ⟨rfl,hq⟩
 refine⟨_,rfl,?_⟩
 replace hs:=hs.callE hq
 refine wm<|wx rfl rfl<|wx rfl rfl<|WL.alloc ty201 rfl hs (fun b5 w hs=>?_)
 refine WL.storeAll ty201 rfl rfl ((hdl)) ((Cells1.u8s _)) hs (by rfl) (fun w hs=>?_)
 refine wA<|wZ<|sr<|wR ty201 rfl hdl hs.a0<|WL.storeAll_1 ty44 rfl rfl ((hdl)) ((Cells1.u8s _)) hs (by rfl) (fun w hs=>?_)
 refine wZ<|CW.ret ?_
 refine fin_cell1 rfl rfl (run_loadVarN ty44 (by assumption) hs.a1) ?_
 exact⟨rfl,hs.clear⟩
theorem encS_spec{v:Value}{l:List Ent} (w0:World) (hl:Es w0 v l) (hcap:Room v):CP 57 #[v] w0 fun e w'=>∃v' y Lv er,e=.returned (.tuple #[v',.int .i64 er])∧(er=0→y=encB l∧checkE l=0)∧(er≠0→checkE l≠0)∧OwnSl 5 1 v' y.length (u8s y) Lv∧y.length≤1048576∧Step [] Lv w0 w':=by
 by_cases hc:checkE l=0
 ·refine(encodeR_ok w0 hl hcap hc).mono ?_
  rintro e w' ⟨v',Lv,he,hv,hs⟩
  exact⟨v',_,Lv,0,he,fun _=>⟨rfl,hc⟩,fun h=>absurd rfl h,hv,by have:=enc_len hl.2.1 hc;omega,hs⟩
 ·refine(encodeR_bad w0 hl hcap hc).mono ?_
  rintro e w' ⟨he,hs⟩
  exact⟨_,[],[],checkE l,he,fun h=>absurd h hc,fun _=>hc,OwnSl.nil _ _,by simp,hs⟩
theorem Its.step0{L:OL}{w w':World}{v:Value}{l:List It} (h:Its w v l) (hs:Step [] L w w'):Its w' v l:=⟨h.sl.step0 hs,fun x hx=>⟨(h.ok x hx).hb.step0 hs,(h.ok x hx).lp,(h.ok x hx).lb⟩,h.len⟩
abbrev BL:=List (Value×(List UInt8))
def cellsB (B:BL):List Value:=B.map (·.1)
theorem cellsB_snoc (B:BL) (t:Value×List UInt8):cellsB (B++[t])=cellsB B++[t.1]:=by simp[cellsB]
theorem cellsB_app (B C:BL):cellsB (B++C)=cellsB B++cellsB C:=by simp[cellsB]
def BOk (D:(List (Nat×Obj))) (B:BL):Prop:=∀t∈B,Held D t.1 t.2∧t.2.length≤1048576
theorem BOk.mono {D D':OL}{B:BL} (h:BOk D B) (hD:∀p∈D,p∈D'):BOk D' B:=fun t ht=>⟨(h t ht).1.mono hD,(h t ht).2⟩
theorem BOk.app{D:OL}{B C:BL} (h:BOk D B) (h2:BOk D C):BOk D (B++C):=fun t ht=>(mem_append.1 ht).elim (h t) (h2 t)
theorem BOk.c1{D:OL}{B:BL} (h:BOk D B):Cells1 (cellsB B):=fun v hv=>by
 have ob:=mem_map.1 hv
 obtain⟨t,ht,rfl⟩:=ob
 have ob:=(h t ht).1.form
 obtain⟨a,c,he⟩:=ob
 show t.1.oneCell'=true
 rw[he];rfl
theorem bld_ent (n:U8) (k:Int) (w:World):(Instr.build 115 #[(0,str n),(1,.int .i64 k)]).run Tryz.prog w=.ok (.agg (Ent.cells ⟨n,k,List.replicate 32 0⟩).toArray) w:=by kernel_rfl
theorem splice_ent{n:U8}{k:Int}{z d:U8} (hz:z.length=32) (hd:d.length=32):splice (Ent.cells ⟨n,k,z⟩) (0+2) (u8s d)=Ent.cells ⟨n,k,d⟩:=by
 have h1:(u8s d).length=32:=by rw[u8s,length_map,hd]
 have h2:(u8s z).length=32:=by rw[u8s,length_map,hz]
 have h3:(u8s z).drop 32=[]:=drop_of_length_le (by omega)
 rw[splice,h1]
 show [str n,Value.int .i64 k]++u8s d++(u8s z).drop 32=_
 rw[h3,append_nil];rfl
section
variable{S:List Nat}{A B C D E F G X Y:OL}{a b c:Nat×Obj}{w w':World}
theorem Step.q1 (h:Step S (a::(A++X)) w w'):Step S (a::X) w w':=Step.dropL (L1:=A) (h.perm (by classical exact perm_iff_count.2 fun x=>by simp only[count_append,count_cons];omega))
theorem Step.q2 (h:Step S (a::(A++(b::(B++(C++D))))) w w'):Step S (C++(a::(A++(b::(B++D))))) w w':=h.perm (by classical exact perm_iff_count.2 fun x=>by simp only[count_append,count_cons];omega)
theorem Step.q3 (h:Step S (C++(a::(A++(b::(B++D))))) w w'):Step S (b::(B++(C++(A++D)))) w w':=Step.tail (p:=a) (h.perm (by classical exact perm_iff_count.2 fun x=>by simp only[count_append,count_cons];omega))
theorem Step.q4 (h:Step S ((A++(B++C))++(a::X)) w w'):Step S (a::(A++(B++(C++X)))) w w':=h.perm (by classical exact perm_iff_count.2 fun x=>by simp only[count_append,count_cons];omega)
theorem Step.q5 (h:Step S (A++(a::X)) w w'):Step S (a::(A++X)) w w':=h.perm perm_middle
theorem Step.q6 (h:Step S (a::(A++(B++(C++(D++(E++(F++G))))))) w w'):Step S (F++(a::(A++(B++(C++(D++(E++G))))))) w w':=h.perm (by classical exact perm_iff_count.2 fun x=>by simp only[count_append,count_cons];omega)
theorem Step.q7 (h:Step S (F++(b::(a::(A++(B++(C++(D++(E++G)))))))) w w'):Step S (a::(E++(F++(A++(D++G))))) w w':=Step.dropL (L1:=b::(B++C)) (h.perm (by classical exact perm_iff_count.2 fun x=>by simp only[count_append,count_cons];omega))
end
def EntsPost (l:List It) (i:Nat) (w0:World) (e:Ending) (w':World):Prop:=
 ∃vE LE El vB LB B D j,e=.returned (.tuple #[vE,vB,.int .i64 (j:Nat)])∧OwnSl 115 34 vE El.length (rows El) LE∧Oks El∧El.length≤j - i∧OwnSl 76 1 vB B.length (cellsB B) LB∧BOk D B∧B.length≤j - i∧i≤j∧j≤l.length∧Step [] (LE++(LB++D)) w0 w'
set_option maxHeartbeats 16000000 in
theorem entries_spec{k:Nat} (hk1:1≤k) (hk:k≤32){av:Option Addr}{cv:Nat}{l:List It} (hlen:l.length<65536) (hroom:l.length≤cv) (hgood:∀x∈l,GoodIt x):∀(n i:Nat),l.length - i≤n→i≤l.length→∀(p:U8),p.length≤4096→∀(w0:World),Its w0 (.slice av l.length cv) l→
  CP 109 #[.int .i64 (k:Nat),.slice av l.length cv,str p,.int .i64 (i:Nat)] w0 (EntsPost l i w0):=by
 intro n
 induction n with
 | zero=>
  intro i hni hil p hpl w0 hl
  obtain rfl:i=l.length:=by omega
  have hs:Step [] [] w0 w0:=Step.refl w0
  refine calls (n:=114) Tryz.func109 rfl rfl rfl ?_
  refine sr<|wA<|wA<|wA<|wZ<|sr<|wA<|wZ<|sr<|wA<|wZ ?_
  refine cq<|cB<|CW.loop (fun z f w'=>z=0∧Step [] [] w0 w'∧Holds f [(1,.slice av l.length cv),(2,str p),(3,.int .i64 (l.length:Nat)),(11,.slice none 0 0),(12,.slice none 0 0)]) (m:=0) ?_ ?_
  ·exact⟨rfl,hs,rfl,rfl,rfl,rfl,rfl,trivial⟩
  clear hs
  rintro z f w ⟨rfl,hs,hf⟩
  have ob:=hf.chain
  obtain⟨g,rfl⟩:=ob
  refine cq<|sr<|wm<|wm<|wL u65 rfl<|lF<|wm<|wz<|wz<|wz<|wz<|wz<|wz<|wz<|wz<|wz<|wz<|wz<|pF<|wZ ?_
  refine CW.cond rfl (fun h=>?_) (fun h=>?_)
  ·cases h
  refine CW.exit<|sr<|wm<|wm<|wm<|wA<|wA<|wA<|wZ<|CW.ret ?_
  refine fin_ret3 rfl ?_
  exact⟨_,[],[],_,[],[],[],l.length,rfl,OwnSl.nil _ _,Oks.nil,by simp,OwnSl.nil _ _,(fun t ht=>by cases ht),by simp,Nat.le_refl _,Nat.le_refl _,hs⟩
 | succ n ih=>
  intro i0 hni hil p hpl w0 hl
  have hs:Step [] [] w0 w0:=Step.refl w0
  refine calls (n:=114) Tryz.func109 rfl rfl rfl ?_
  refine sr<|wA<|wA<|wA<|wZ<|sr<|wA<|wZ<|sr<|wA<|wZ ?_
  refine cq<|cB<|CW.loop (fun z f w'=>∃i vE LE El vB LB B D,i0≤i∧i≤l.length∧z=l.length - i∧OwnSl 115 34 vE El.length (rows El) LE∧Oks El∧El.length≤i - i0∧OwnSl 76 1 vB B.length (cellsB B) LB∧BOk D B∧B.length≤i - i0∧Step [] (LE++(LB++D)) w0 w'∧Holds f [(0,.int .i64 (k:Nat)),(1,.slice av l.length cv),(2,str p),(3,.int .i64 (i:Nat)),(11,vE),(12,vB)]) (m:=l.length - i0) ?_ ?_
  ·exact⟨i0,_,[],[],_,[],[],[],Nat.le_refl _,hil,rfl,OwnSl.nil _ _,Oks.nil,by simp,OwnSl.nil _ _,(fun t ht=>by cases ht),by simp,hs,rfl,rfl,rfl,rfl,rfl,rfl,trivial⟩
  clear hs
  rintro z f w ⟨i,vE,LE,El,vB,LB,B,D,hi0,hil2,rfl,hE,hEo,hEl,hB,hBo,hBl,hs,hf⟩
  by_cases hlt:i<l.length
  ·have ob:∃x,l[i]?=some x:=⟨_,getElem?_eq_getElem hlt⟩
   obtain⟨x,hx⟩:=ob
   have hxm:=mem_of_getElem? hx
   have hxo:=hl.ok x hxm
   have ob:=hgood x hxm
   obtain⟨hcl,hp0,hxl⟩:=ob
   have hxpl:=clean_len hcl
   have ob:=hl.at hx
   obtain⟨bl,ol,cl,hc0,hat0⟩:=ob
   cases hc0
   have ob:=hxo.hb.form
   obtain⟨ax,cx,hvx⟩:=ob
   have hrow:∀{X:OL}{w:World},Step [] X w0 w→At w bl (ol+i*3) (itC x.p x.d (.slice ax x.x.length cx)):=fun h=>by
    have h1:=hat0.step h.clear (by simp)
    rw[hvx] at h1;exact h1
   have ob:=hf.chain
   obtain⟨g,rfl⟩:=ob
   have hun:=fun w=>refUnder_spec (s:=p) (t:=x.p) w (by omega) (by omega)
   have ob:∃b,underL (partsL p) (partsL x.p)=b:=⟨_,rfl⟩
   obtain⟨ub,hub⟩:=ob
   simp only[hub] at hun
   have hpn:partsL x.p≠[]:=fun h=>hp0 (partsL_nil h)
   have hpt:=fun w=>refParts_spec (s:=x.p) w (by omega)
   have hpnm:=(clean_named hcl).1
   have hpnl:=(clean_named hcl).2
   have ob:∃ps,partsL x.p=ps:=⟨_,rfl⟩
   obtain⟨ps,hps⟩:=ob
   simp only[hps] at hpt hpn hpnm hpnl
   have hpl0:0<ps.length:=length_pos_iff.2 hpn
   have ob:∃nm,ps[ps.length - 1]?=some nm:=⟨_,getElem?_eq_getElem (by omega)⟩
   obtain⟨nm,hnm⟩:=ob
   have hnml:=isName_le (hpnm nm (mem_of_getElem? hnm))
   refine CW.seqM (fun f w=>Step [] (LE++(LB++D)) w0 w∧Holds f [(0,.int .i64 (k:Nat)),(1,.slice (some ⟨bl,ol,none⟩) l.length cv),(2,str p),(3,.int .i64 (i:Nat)),(11,vE),(12,vB)]) ?_ ?_
   ·by_cases hpe:p=[]
    ·refine sr<|wm<|wm<|wL u65 rfl<|lT<|wm<|wy<|wm<|wy<|wV (run_bT (run_strEq rfl rfl) (by exact hpe))<|wy<|wm<|wz<|wz<|wz<|wz<|wz<|wz<|wz ?_
     refine wy ?_;(first | refine WL.val rfl (run_pickT rfl) ?_ | refine WL.val rfl (run_pickF rfl) ?_)
     refine pT<|wZ<|CW.cond rfl (fun h=>?_) (fun h=>?_)
     ·refine ck ?_
      exact⟨rfl,hs,rfl,rfl,rfl,rfl,rfl,rfl,trivial⟩
     ·cases h
    ·cases ub with
     | true=>
      refine sr<|wm<|wm<|wL u65 rfl<|lT<|wm<|wy<|wm<|wy<|wV (run_bF (run_strEq rfl rfl) (by exact hpe))<|wy<|wm<|wy<|wm ?_
      refine wy<|wm<|wy<|wm ?_
      refine wy ?_;(first | refine WL.val rfl (run_ixSlN u65 ty155 rfl rfl (by omega)) ?_ | refine WL.val rfl (run_ixSl u65 ty155 rfl rfl (by omega)) ?_)
      refine wy<|wF 0 u155 rfl ty9 rfl<|wy<|wl ty9 rfl ((hrow hs).cell (j:=0) rfl)<|wy<|wE rfl (run_call en153 rfl rfl) (hun _) ?_
      rintro e w ⟨rfl,hq⟩
      refine⟨_,rfl,?_⟩
      replace hs:=hs.callE hq
      refine wy ?_;(first | refine WL.val rfl (run_pickT rfl) ?_ | refine WL.val rfl (run_pickF rfl) ?_)
      refine pT<|wZ<|CW.cond rfl (fun h=>?_) (fun h=>?_)
      ·refine ck ?_
       exact⟨rfl,hs,rfl,rfl,rfl,rfl,rfl,rfl,trivial⟩
      ·cases h
     | false=>
      refine sr<|wm<|wm<|wL u65 rfl<|lT<|wm<|wy<|wm<|wy<|wV (run_bF (run_strEq rfl rfl) (by exact hpe))<|wy<|wm<|wy<|wm ?_
      refine wy<|wm<|wy<|wm ?_
      refine wy ?_;(first | refine WL.val rfl (run_ixSlN u65 ty155 rfl rfl (by omega)) ?_ | refine WL.val rfl (run_ixSl u65 ty155 rfl rfl (by omega)) ?_)
      refine wy<|wF 0 u155 rfl ty9 rfl<|wy<|wl ty9 rfl ((hrow hs).cell (j:=0) rfl)<|wy<|wE rfl (run_call en153 rfl rfl) (hun _) ?_
      rintro e w ⟨rfl,hq⟩
      refine⟨_,rfl,?_⟩
      replace hs:=hs.callE hq
      refine wy ?_;(first | refine WL.val rfl (run_pickT rfl) ?_ | refine WL.val rfl (run_pickF rfl) ?_)
      refine pT<|wZ<|CW.cond rfl (fun h=>?_) (fun h=>?_)
      ·cases h
      refine CW.exit<|sr<|wm<|wm<|wm<|wA<|wA<|wA<|wZ<|CW.ret ?_
      refine fin_ret3 rfl ?_
      exact⟨vE,LE,El,vB,LB,B,D,i,rfl,hE,hEo,hEl,hB,hBo,hBl,hi0,hil2,hs⟩
   clear hs hf
   rintro f w ⟨hs,hf⟩
   have ob:=hf.chain
   obtain⟨g,rfl⟩:=ob
   refine cB<|sr<|wm<|wm<|wI u65 ty155 rfl rfl<|wF 0 u155 rfl ty9 rfl<|wl ty9 rfl ((hrow hs).cell (j:=0) rfl)<|wE rfl (run_call en154 rfl rfl) (hpt _) ?_
   rintro e w ⟨u,Lu,rfl,hu,hq⟩
   refine⟨_,rfl,?_⟩
   replace hs:=Step.call0 hs hq
   refine wA<|wZ ?_
   have ob:=At.ownSl hu (w:=w) (fun q hq=>hs.has q (mem_append_left _ hq)) hpl0
   obtain⟨bu,cu,hue,hua⟩:=ob
   cases hue
   have hucell:∀{X:OL}{w':World},w'.cell? ⟨bu,0+(ps.length - 1)*1,none⟩=w.cell? ⟨bu,0+(ps.length - 1)*1,none⟩→w'.cell? ⟨bu,0+(ps.length - 1)*1,none⟩=some (str nm):=fun h=>by
    rw[h]
    refine hua.cell (j:=(ps.length - 1)*1) ?_
    rw[Nat.mul_one,strs,getElem?_map,hnm];rfl
   refine sr<|wm<|wm<|wL u256 rfl<|wS ((ps.length - 1:Nat):Int)<|wI u256 ty9 rfl rfl<|wl ty9 rfl (hucell (X:=[]) rfl)<|wV (run_build rfl (bld_ent _ _ _))<|WL.alloc ty115 rfl hs (fun b14 w hs=>?_)
   refine WL.storeAll ty115 rfl rfl ((by simp[Ent.cells,u8s])) ((Ent.cells1 _)) hs (by rfl) (fun w hs=>?_)
   refine wZ ?_
   replace hs:Step [] ((b14,blk 115 (Ent.cells ⟨nm,1,List.replicate 32 0⟩))::(LE++(LB++D))) w0 w:=Step.q1 hs
   refine CW.seqM (fun f w=>∃kd dg j vB2 LB2 B2 D2,dg.length=32∧(kd=1∨kd=2)∧i<j∧j≤l.length∧OwnSl 76 1 vB2 B2.length (cellsB B2) LB2∧BOk D2 B2∧B2.length≤j - i0∧Step [] ((b14,blk 115 (Ent.cells ⟨nm,kd,dg⟩))::(LE++(LB2++D2))) w0 w∧Holds f [(0,.int .i64 (k:Nat)),(1,.slice (some ⟨bl,ol,none⟩) l.length cv),(2,str p),(3,.int .i64 (j:Nat)),(11,vE),(12,vB2),(14,pt b14)]) ?_ ?_
   ·have ob:∃b,x.d=b:=⟨_,rfl⟩
    obtain⟨xd,hxd⟩:=ob
    rw[hxd] at hrow
    cases xd with
    | true=>
     refine sr<|wm<|wm<|wI u65 ty155 rfl rfl<|wF 1 u155 rfl ty4 rfl<|wl ty4 rfl ((hrow hs).cell (j:=1) rfl)<|wZ<|CW.cond rfl (fun h=>?_) (fun h=>?_)
     ·refine sr<|wF 1 u115 rfl ty3 rfl<|ws1 ty3 rfl rfl (rfl) hs (fun w hs=>?_)
      refine wZ ?_
      replace hs:Step [] ((b14,blk 115 (Ent.cells ⟨nm,2,List.replicate 32 0⟩))::(LE++(LB++D))) w0 w:=hs
      refine sr<|wm<|wm<|wm<|wm<|wI u65 ty155 rfl rfl<|wF 0 u155 rfl ty9 rfl<|wl ty9 rfl ((hrow hs).cell (j:=0) rfl)<|wm<|wP ((i+1:Nat):Int)<|wE rfl (run_call en109 rfl rfl) (ih (i+1) (by omega) (by omega) x.p (by omega) w (hl.step0 hs.clear)) ?_
      rintro e w ⟨v2,LE2,E2,v3,LB2,B2,D2,j2,rfl,hE2,hE2o,hE2l,hB2,hB2o,hB2l,hj1,hj2,hq⟩
      refine⟨_,rfl,?_⟩
      replace hs:=Step.q4 (Step.call0 hs hq)
      refine wm<|wx rfl rfl<|wx rfl rfl<|wx rfl rfl<|wA<|wA<|wA<|wZ ?_
      have hes:∀{w:World},Step [] ((b14,blk 115 (Ent.cells ⟨nm,2,List.replicate 32 0⟩))::(LE2++(LB2++(D2++(LE++(LB++D)))))) w0 w→Es w v2 E2:=fun h=>⟨hE2.slW fun q hq=>h.has q (by simp[hq]),hE2o,by omega⟩
      refine sr<|wm<|wE rfl (run_call en57 rfl rfl) (encS_spec _ (hes hs) (hE2.roomW (by omega))) ?_
      rintro e w ⟨v18,y,L18,er,rfl,_,_,hv18,hyl,hq2⟩
      refine⟨_,rfl,?_⟩
      replace hs:=Step.q5 (Step.call0 hs hq2)
      refine wm<|wx rfl rfl<|wx rfl rfl<|wA<|wA<|wZ<|sr<|wm<|wm<|wE rfl (run_call en110 rfl rfl) (digest6_spec (x:=y) w (hv18.slW fun q hq=>hs.has q (by simp[hq])) (by omega) hk1 hk) ?_
      rintro e w ⟨rfl,hq3⟩
      refine⟨_,rfl,?_⟩
      replace hs:=hs.callE hq3
      refine wF 2 u115 rfl ty44 rfl<|WL.storeN ty44 rfl rfl ((by rw[u8s,length_map,frontL_len hk])) (Cells1.u8s _) (hs) (by first | (simp;done) | omega | (simp only[length_append,length_replicate,length_cons,length_nil,length_set];omega) | (simp[Ent.cells,u8s];done) | exact Nat.le_of_ble_eq_true rfl) (fun w hs=>?_)
      refine wZ ?_
      have hfr:=frontL_len (x:=y) hk
      have ob:∃dg,frontL y k=dg:=⟨_,rfl⟩
      obtain⟨dg,hdg⟩:=ob
      rw[hdg] at hfr hs
      replace hs:Step [] ((b14,blk 115 (Ent.cells ⟨nm,2,dg⟩))::(L18++(LE2++(LB2++(D2++(LE++(LB++D))))))) w0 w:=by rw[←splice_ent (z:=List.replicate 32 0) (by simp) hfr];exact hs
      have hs2:=Step.q6 hs
      have hBs:Sl w 1 v3 B2.length (cellsB B2):=hB2.slW fun q hq=>hs.has q (by simp[hq])
      have hHy:Held (L18++(D2++D)) v18 y:=⟨L18,hv18,fun q hq=>mem_append_left _ hq⟩
      have ob:=hv18.form
      obtain⟨ya,yc,rfl⟩:=ob
      refine sr<|wm<|wm<|WL.append u24 u24 ty76 rfl (by decide) rfl rfl (hB) (hs2) (hBs) (hB2o.c1) (by omega) rfl (fun v81 Lv81 w hv81 hs=>?_)
      refine wA<|wZ ?_
      replace hs:=hs
      refine sr<|wm<|wm<|WL.buildSlice (cs:=[.slice ya y.length yc]) (vs:=[(0,.slice ya y.length yc)]) u24 ty76 rfl (by decide) rfl (filled_s _ _ rfl) rfl hs (fun b84 w hs=>?_)
      have hsl84:Sl w 1 (.slice (some ⟨b84,0,none⟩) 1 1) 1 [Value.slice ya y.length yc]:=.own1 hs rfl
      replace hs:=Step.in1 (Z:=Lv81) hs
      refine WL.append u24 u24 ty76 rfl (by decide) rfl rfl (hv81) (hs) (hsl84) (Cells1.of_all rfl) (by omega) rfl (fun v85 Lv85 w hv85 hs=>?_)
      refine wA<|wZ ?_
      replace hs:=Step.q7 hs
      have hB3:OwnSl 76 1 v85 (B++B2++[(Value.slice ya y.length yc,y)]).length (cellsB (B++B2++[(Value.slice ya y.length yc,y)])) Lv85:=by
       rw[length_append,length_append,cellsB_snoc,cellsB_app];exact hv85
      have hB3o:BOk (L18++(D2++D)) (B++B2++[(Value.slice ya y.length yc,y)]):=((hBo.mono fun q hq=>by simp[hq]).app (hB2o.mono fun q hq=>by simp[hq])).app fun t ht=>by
       obtain rfl:=mem_singleton.1 ht
       exact⟨hHy,hyl⟩
      refine cr<|wm<|wA<|wZ ?_
      exact⟨rfl,2,dg,j2,v85,Lv85,_,_,hfr,.inr rfl,by omega,hj2,hB3,hB3o,by simp only[length_append,length_singleton];omega,hs,rfl,rfl,rfl,rfl,rfl,rfl,rfl,trivial⟩
     ·cases h
    | false=>
     refine sr<|wm<|wm<|wI u65 ty155 rfl rfl<|wF 1 u155 rfl ty4 rfl<|wl ty4 rfl ((hrow hs).cell (j:=1) rfl)<|wZ<|CW.cond rfl (fun h=>?_) (fun h=>?_)
     ·cases h
     refine sr<|wm<|wm<|wm<|wI u65 ty155 rfl rfl<|wF 2 u155 rfl ty76 rfl<|wl ty76 rfl ((hrow hs).cell (j:=2) rfl)<|wE rfl (run_call en110 rfl rfl) (digest6_spec (x:=x.x) w (by rw[←hvx];exact hxo.hb.step0 hs.clear) (by omega) hk1 hk) ?_
     rintro e w ⟨rfl,hq3⟩
     refine⟨_,rfl,?_⟩
     replace hs:=hs.callE hq3
     refine wF 2 u115 rfl ty44 rfl<|WL.storeN ty44 rfl rfl ((by rw[u8s,length_map,frontL_len hk])) (Cells1.u8s _) (hs) (by first | (simp;done) | omega | (simp only[length_append,length_replicate,length_cons,length_nil,length_set];omega) | (simp[Ent.cells,u8s];done) | exact Nat.le_of_ble_eq_true rfl) (fun w hs=>?_)
     refine wZ ?_
     have hfr:=frontL_len (x:=x.x) hk
     have ob:∃dg,frontL x.x k=dg:=⟨_,rfl⟩
     obtain⟨dg,hdg⟩:=ob
     rw[hdg] at hfr hs
     replace hs:Step [] ((b14,blk 115 (Ent.cells ⟨nm,1,dg⟩))::(LE++(LB++D))) w0 w:=by rw[←splice_ent (z:=List.replicate 32 0) (by simp) hfr];exact hs
     refine sr<|wm<|WL.buildSlice (cs:=[]) u76 ty5 rfl (by decide) rfl (by rfl) rfl hs (fun b96 w hs=>?_)
     refine wm<|wm<|wI u65 ty155 rfl rfl<|wF 2 u155 rfl ty76 rfl<|wl ty76 rfl ((hrow hs).cell (j:=2) rfl)<|WL.append u76 u76 ty5 rfl (by decide) rfl rfl (OwnSl.mk (b:=b96) (xs:=[]) (k:=0) rfl) (hs) ((by rw[←hvx];exact hxo.hb.step0 hs.clear)) (Cells1.u8s _) (by omega) rfl (fun v102 Lv102 w hv102 hs=>?_)
     have hfv:=hv102.form
     obtain⟨ya,yc,hye⟩:=hfv
     subst hye
     refine WL.buildSlice (cs:=[.slice ya (0+x.x.length) yc]) (vs:=[(0,.slice ya (0+x.x.length) yc)]) u24 ty76 rfl (by decide) rfl (filled_s _ _ rfl) rfl hs (fun b103 w hs=>?_)
     have hsl103:Sl w 1 (.slice (some ⟨b103,0,none⟩) 1 1) 1 [Value.slice ya (0+x.x.length) yc]:=.own1 hs rfl
     replace hs:=Step.q2 hs
     refine WL.append u24 u24 ty76 rfl (by decide) rfl rfl (hB) (hs) (hsl103) (Cells1.of_all rfl) (by omega) rfl (fun v104 Lv104 w hv104 hs=>?_)
     refine wA<|wZ ?_
     replace hs:=Step.q3 hs
     have hHy:Held (Lv102++D) (.slice ya (0+x.x.length) yc) x.x:=⟨Lv102,by rw[Nat.zero_add] at hv102⊢;rw[nil_append] at hv102;exact hv102,fun q hq=>mem_append_left _ hq⟩
     have hB3:OwnSl 76 1 v104 (B++[(Value.slice ya (0+x.x.length) yc,x.x)]).length (cellsB (B++[(Value.slice ya (0+x.x.length) yc,x.x)])) Lv104:=by
      rw[length_append,cellsB_snoc];exact hv104
     have hB3o:BOk (Lv102++D) (B++[(Value.slice ya (0+x.x.length) yc,x.x)]):=(hBo.mono mem_right).app fun t ht=>by
      obtain rfl:=mem_singleton.1 ht
      exact⟨hHy,hxl⟩
     refine cr<|wm<|wP ((i+1:Nat):Int)<|wA<|wZ ?_
     exact⟨rfl,1,dg,i+1,v104,Lv104,_,_,hfr,.inl rfl,by omega,by omega,hB3,hB3o,by simp only[length_append,length_singleton];omega,hs,rfl,rfl,rfl,rfl,rfl,rfl,rfl,trivial⟩
   clear hs hf
   rintro f w ⟨kd,dg,j,vB2,LB2,B2,D2,hdg,hkd,hj1,hj2,hB2,hB2o,hB2l,hs,hf⟩
   have ob:=hf.chain
   obtain⟨g,rfl⟩:=ob
   have heo:Ent.ok (⟨nm,kd,dg⟩:Ent):=⟨hdg,by rcases hkd with h | h <;> (show _≤kd;omega),by rcases hkd with h | h <;> (show kd≤_;omega),by show nm.length≤_;omega⟩
   have hec:=Ent.cells_len heo
   refine cr<|wm<|wR ty115 rfl hec hs.a0<|WL.buildSlice (cs:=Ent.cells ⟨nm,kd,dg⟩) u116 ty115 rfl (by decide) rfl (filled1 hec rfl) rfl hs (fun b109 w hs=>?_)
   have hsl109:Sl w 34 (.slice (some ⟨b109,0,none⟩) 1 1) 1 (Ent.cells ⟨nm,kd,dg⟩):=.own1 hs (by rw[hec])
   replace hs:=Step.in2 hs
   refine WL.append u116 u116 ty115 rfl (by decide) rfl rfl (hE) (hs) (hsl109) (Ent.cells1 _) (by omega) rfl (fun v110 Lv110 w hv110 hs=>?_)
   refine wA<|wZ ?_
   replace hs:=Step.out2 hs
   have hE2:OwnSl 115 34 v110 (El++[(⟨nm,kd,dg⟩:Ent)]).length (rows (El++[(⟨nm,kd,dg⟩:Ent)])) Lv110:=by
    rw[length_append,rows_append,rows_one];exact hv110
   refine(show _∧_ from⟨rfl,_,?_,j,v110,Lv110,_,vB2,LB2,B2,D2,by omega,hj2,rfl,hE2,hEo.append (Oks.one heo),?_,hB2,hB2o,hB2l,hs,rfl,rfl,rfl,rfl,rfl,rfl,trivial⟩)
   ·omega
   ·rw[length_append,length_singleton];omega
  ·have ob:=hf.chain
   obtain⟨g,rfl⟩:=ob
   refine cq<|sr<|wm<|wm<|wL u65 rfl<|lF<|wm<|wz<|wz<|wz<|wz<|wz<|wz<|wz<|wz<|wz<|wz<|wz<|pF<|wZ ?_
   refine CW.cond rfl (fun h=>?_) (fun h=>?_)
   ·cases h
   refine CW.exit<|sr<|wm<|wm<|wm<|wA<|wA<|wA<|wZ<|CW.ret ?_
   refine fin_ret3 rfl ?_
   exact⟨vE,LE,El,vB,LB,B,D,i,rfl,hE,hEo,hEl,hB,hBo,hBl,hi0,hil2,hs⟩
theorem fin_cellTmp2{P:Program}{n:Nat}{w:World}{fn:Func}{R:Ending→World→Prop}{f:Slots}{t u s:Tmp}{T:TypeId}{A:Addr}{v:Value} (hr:fn.results=#[.cell t T,.tmp u,.tmp s]) (hA:f t=.pointer (some A)) (hv:(loadVar T A).run P w=.ok v w) (h:R (.returned (.tuple #[v,f u,f s])) w):fin P n fn R .ret f [] w:=
 fun a ha=>bodyPost_ret (v:=.tuple #[v,f u,f s]) (by simp[results,hr,ha.get,hA,asAddr,hv]) ha.defers h
theorem cellsB_at{B:BL}{w:World}{b off:Nat} (h:At w b off (cellsB B)){i:Nat}{t:Value×List UInt8} (ht:B[i]?=some t):w.cell? ⟨b,off+i*1,none⟩=some t.1:=by
 refine h.cell (j:=i*1) ?_
 rw[Nat.mul_one,cellsB,getElem?_map,ht];rfl
section
variable{S:List Nat}{A B C D E F G X Y:OL}{a b c:Nat×Obj}{w w':World}
theorem Step.r1 (h:Step S ((A++(B++C))++(a::X)) w w'):Step S (a::(B++(A++(C++X)))) w w':=h.perm (by classical exact perm_iff_count.2 fun x=>by simp only[count_append,count_cons];omega)
theorem Step.r2 (h:Step S (A++(a::(B++(E++D)))) w w'):Step S (B++(a::(A++D))) w w':=Step.dropL (L1:=E) (h.perm (by classical exact perm_iff_count.2 fun x=>by simp only[count_append,count_cons];omega))
theorem Step.r3 (h:Step S (b::(B++X)) w w'):Step S (B++(b::X)) w w':=h.perm (by classical exact perm_iff_count.2 fun x=>by simp only[count_append,count_cons];omega)
theorem Step.r4 (h:Step S (B++(b::(a::X))) w w'):Step S (a::(B++X)) w w':=Step.tail (p:=b) (h.perm (by classical exact perm_iff_count.2 fun x=>by simp only[count_append,count_cons];omega))
theorem Step.r5 (h:Step S (b::(A++(a::(B++D)))) w w'):Step S (A++(b::(a::(B++D)))) w w':=h.perm (by classical exact perm_iff_count.2 fun x=>by simp only[count_append,count_cons];omega)
theorem Step.r6 (h:Step S (A++(b::(a::(B++D)))) w w'):Step S (A++(a::(B++D))) w w':=Step.tail (p:=b) (h.perm (by classical exact perm_iff_count.2 fun x=>by simp only[count_append,count_cons];omega))
theorem Step.r7 (h:Step S (A++(a::(B++D))) w w'):Step S (a::(A++(B++D))) w w':=h.perm perm_middle
end
def BuildPost (w0:World) (e:Ending) (w':World):Prop:=
 ∃d vB LB B D er,e=.returned (.tuple #[.agg (u8s d).toArray,vB,.int .i64 er])∧d.length=32∧OwnSl 76 1 vB B.length (cellsB B) LB∧BOk D B∧B.length≤131072∧Step [] (LB++D) w0 w'
set_option maxHeartbeats 16000000 in
theorem build_spec{k:Nat} (hk1:1≤k) (hk:k≤32){v:Value}{l:List It} (w0:World) (hl:Its w0 v l) (hpl:∀x∈l,x.p.length<4294967281) (hroom:Room v) :
  CP 59 #[.int .i64 (k:Nat),v] w0 (BuildPost w0):=by
 have hs:Step [] [] w0 w0:=Step.refl w0
 have ob:=hl.sl.form
 obtain⟨av,cv,rfl⟩:=ob
 have hrm:l.length≤cv:=hroom
 have hzl:(u8s zD).length=32:=by simp[u8s,zD]
 refine calls (n:=82) Tryz.func59 rfl rfl rfl ?_
 refine sr<|WL.alloc ty44 rfl hs (fun b4 w hs=>?_)
 refine wA<|wA<|wZ ?_
 replace hs:Step [] ((b4,blk 44 (u8s zD))::[]) w0 w:=hs
 refine cq<|sr<|wm<|lF<|wm<|wy<|wm<|wy<|xF<|pF<|wZ<|CW.cond rfl (fun h=>?_) (fun h=>?_)
 ·cases h
 refine ck<|cq<|sr<|wm<|wE rfl (run_call en108 rfl rfl) (isTreeS_spec _ (hl.step0 hs.clear) hpl hroom) ?_
 rintro e w ⟨tb,rfl,htb,hq⟩
 refine⟨_,rfl,?_⟩
 replace hs:=hs.callE hq
 refine wN rfl<|wZ ?_
 cases tb with
 | false=>
  refine CW.cond rfl (fun h=>?_) (fun h=>?_)
  ·refine sr<|wV (run_build rfl (bld_dig _))<|WL.storeAll ty44 rfl rfl ((hzl)) ((Cells1.u8s _)) hs (by rfl) (fun w hs=>?_)
   refine wA<|wA<|wZ<|CW.ret ?_
   refine fin_cellTmp2 rfl rfl (run_loadVarN ty44 hzl hs.a0) ?_
   exact⟨zD,_,[],[],[],64,rfl,by simp[zD],OwnSl.nil _ _,(fun t ht=>by cases ht),by simp,hs.tail⟩
  ·cases h
 | true=>
 have ob:=htb rfl
 obtain⟨hll,hgood⟩:=ob
 refine CW.cond rfl (fun h=>?_) (fun h=>?_)
 ·cases h
 refine ck<|sr<|wm<|wm<|wE rfl (run_call en109 rfl rfl) (entries_spec hk1 hk hll hrm hgood l.length 0 (by omega) (Nat.zero_le _) [] (by simp) w (hl.step0 hs.clear)) ?_
 rintro e w ⟨v7,L7,El,v8,L8,B,D1,j,rfl,hE,hEo,hEl,hB,hBo,hBl,_,hjl,hq⟩
 refine⟨_,rfl,?_⟩
 replace hs:=Step.r1 (Step.call0 hs hq)
 refine wm<|wx rfl rfl<|wx rfl rfl<|wx rfl rfl<|wA<|wA<|wA<|wZ ?_
 have hes:Es w v7 El:=⟨hE.slW fun q hq=>hs.has q (by simp[hq]),hEo,by omega⟩
 refine sr<|wm<|wE rfl (run_call en57 rfl rfl) (encS_spec _ hes (hE.roomW (by omega))) ?_
 rintro e w ⟨v10,y,L10,er,rfl,_,_,hv10,hyl,hq2⟩
 refine⟨_,rfl,?_⟩
 replace hs:=Step.r2 (D:=D1++[]) (Step.call0 hs hq2)
 refine wm<|wx rfl rfl<|wx rfl rfl<|wA<|wA<|wZ ?_
 have ob:=hv10.form
 obtain⟨ya,yc,rfl⟩:=ob
 have hHy:Held (L10++D1) (.slice ya y.length yc) y:=⟨L10,hv10,fun q hq=>mem_append_left _ hq⟩
 refine sr<|wm<|wm<|WL.buildSlice (cs:=[.slice ya y.length yc]) (vs:=[(0,.slice ya y.length yc)]) u24 ty76 rfl (by decide) rfl (filled_s _ _ rfl) rfl hs (fun b41 w hs=>?_)
 have hsl41:Sl w 1 (.slice (some ⟨b41,0,none⟩) 1 1) 1 [Value.slice ya y.length yc]:=.own1 hs rfl
 replace hs:=Step.r3 hs
 refine WL.append u24 u24 ty76 rfl (by decide) rfl rfl (hB) (hs) (hsl41) (Cells1.of_all rfl) (by omega) rfl (fun v42 Lv42 w hv42 hs=>?_)
 refine wA<|wZ ?_
 replace hs:Step [] ((b4,blk 44 (u8s zD))::(Lv42++(L10++D1))) w0 w:=by have h:=Step.r4 hs;rwa [append_nil] at h
 have ob:∃B2,B++[(Value.slice ya y.length yc,y)]=B2:=⟨_,rfl⟩
 obtain⟨B2,hB2⟩:=ob
 have hB3:OwnSl 76 1 v42 B2.length (cellsB B2) Lv42:=by
  rw[←hB2,length_append,cellsB_snoc];exact hv42
 have hB3o:BOk (L10++D1) B2:=by
  rw[←hB2]
  exact(hBo.mono mem_right).app fun t ht=>by
   obtain rfl:=mem_singleton.1 ht
   exact⟨hHy,hyl⟩
 have hB3l:B2.length≤65536:=by rw[←hB2,length_append,length_singleton];omega
 have ob:=hB3.form
 obtain⟨ba,bc,rfl⟩:=ob
 refine sr<|wA<|wZ<|cq<|sr<|wA<|wZ<|cB<|CW.loop (fun z f w'=>∃i vo Lo O,i≤B2.length∧z=B2.length - i∧OwnSl 76 1 vo O.length (cellsB O) Lo∧BOk (L10++D1) O∧O.length≤i∧Step [] (Lo++((b4,blk 44 (u8s zD))::(Lv42++(L10++D1)))) w0 w'∧Holds f [(0,.int .i64 (k:Nat)),(4,pt b4),(8,.slice ba B2.length bc),(10,.slice ya y.length yc),(12,vo),(13,.int .i64 (i:Nat))]) (m:=B2.length) ?_ ?_
 ·exact⟨0,_,[],[],Nat.zero_le _,rfl,OwnSl.nil _ _,(fun t ht=>by cases ht),Nat.le_refl _,hs,rfl,rfl,rfl,rfl,rfl,rfl,trivial⟩
 clear hs
 rintro z f w ⟨i,vo,Lo,O,hi,rfl,hO,hOo,hOl,hs,hf⟩
 have ob:=hf.chain
 obtain⟨g,rfl⟩:=ob
 by_cases hlt:i<B2.length
 ·have ob:∃t,B2[i]?=some t:=⟨_,getElem?_eq_getElem hlt⟩
  obtain⟨t,ht⟩:=ob
  have hto:=hB3o t (mem_of_getElem? ht)
  have ob:=At.ownSl hB3 (w:=w) (fun q hq=>hs.has q (by simp[hq])) (by omega)
  obtain⟨bb,cb,hbe,hba⟩:=ob
  cases hbe
  have hbcell:∀{X:OL}{w':World},Step [] X w0 w'→(∀q∈Lv42,q∈X)→w'.cell? ⟨bb,0+i*1,none⟩=some t.1:=fun h hX=>by
   have ob:=At.ownSl hB3 (w:=_) (fun q hq=>h.has q (hX q hq)) (by omega)
   obtain⟨bb2,cb2,hbe2,hba2⟩:=ob
   cases hbe2
   exact cellsB_at hba2 ht
  have ob:=hto.1.form
  obtain⟨ta,tc,htf⟩:=ob
  have htsl:∀{X:OL}{w':World},Step [] X w0 w'→(∀q∈L10++D1,q∈X)→Sl w' 1 t.1 t.2.length (u8s t.2):=fun h hX=>hto.1.sl fun q hq=>h.has q (hX q hq)
  rw[htf] at hbcell htsl
  refine cq<|sr<|wm<|wm<|wL u24 rfl<|lT<|wZ<|CW.cond rfl (fun h=>?_) (fun h=>?_)
  ·refine ck<|cq<|cB<|sr<|wA<|wZ<|CW.seqM (fun f w'=>∃th,Step [] (Lo++((b4,blk 44 (u8s zD))::(Lv42++(L10++D1)))) w0 w'∧Holds f [(0,.int .i64 (k:Nat)),(4,pt b4),(8,.slice (some ⟨bb,0,none⟩) B2.length bc),(10,.slice ya y.length yc),(12,vo),(13,.int .i64 (i:Nat)),(14,.bool th)]) ?_ ?_
   ·have ob:=hO.form
    obtain⟨oa,oc,rfl⟩:=ob
    refine sr<|wA<|wZ<|cB<|CW.loop (fun z f w'=>∃q th,q≤O.length∧z=O.length - q∧Step [] (Lo++((b4,blk 44 (u8s zD))::(Lv42++(L10++D1)))) w0 w'∧Holds f [(0,.int .i64 (k:Nat)),(4,pt b4),(8,.slice (some ⟨bb,0,none⟩) B2.length bc),(10,.slice ya y.length yc),(12,.slice oa O.length oc),(13,.int .i64 (i:Nat)),(14,.bool th),(15,.int .i64 (q:Nat))]) (m:=O.length) ?_ ?_
    ·exact⟨0,false,Nat.zero_le _,rfl,hs,rfl,rfl,rfl,rfl,rfl,rfl,rfl,rfl,trivial⟩
    clear hs
    rintro z f w ⟨q,th,hq,rfl,hs,hf⟩
    have ob:=hf.chain
    obtain⟨g,rfl⟩:=ob
    by_cases hql:q<O.length
    ·have ob:∃u,O[q]?=some u:=⟨_,getElem?_eq_getElem hql⟩
     obtain⟨u,hu⟩:=ob
     have huo:=hOo u (mem_of_getElem? hu)
     have ob:=At.ownSl hO (w:=w) (fun q hq=>hs.has q (mem_append_left _ hq)) (by omega)
     obtain⟨bo,co,hoe,hoa⟩:=ob
     cases hoe
     have hocell:∀{X:OL}{w':World},Step [] X w0 w'→(∀q∈Lo,q∈X)→w'.cell? ⟨bo,0+q*1,none⟩=some u.1:=fun h hX=>by
      have ob:=At.ownSl hO (w:=_) (fun q hq=>h.has q (hX q hq)) (by omega)
      obtain⟨bb2,cb2,hbe2,hba2⟩:=ob
      cases hbe2
      exact cellsB_at hba2 hu
     have ob:=huo.1.form
     obtain⟨ua,uc,huf⟩:=ob
     have husl:∀{X:OL}{w':World},Step [] X w0 w'→(∀q∈L10++D1,q∈X)→Sl w' 1 u.1 u.2.length (u8s u.2):=fun h hX=>huo.1.sl fun q hq=>h.has q (hX q hq)
     rw[huf] at hocell husl
     refine cq<|sr<|wm<|wm<|wL u24 rfl<|lT<|wZ<|CW.cond rfl (fun h=>?_) (fun h=>?_)
     ·cases th with
      | true=>
       refine ck<|cq<|cB<|CW.quiet mixedP (by kernel_rfl) hs ?_
       refine qm<|qm<|qz<|qz<|qz<|qz<|qz<|qz<|qz<|qz<|qz<|qz<|qz<|qT ?_
       refine qA<|QL.nil (fun w hs=>?_)
       refine cr<|wm<|wP ((q+1:Nat):Int)<|wA<|wZ<|(show _∧_ from⟨rfl,_,?_,q+1,true,hql,rfl,hs,rfl,rfl,rfl,rfl,rfl,rfl,rfl,rfl,trivial⟩)
       omega
      | false=>
       refine ck<|cq<|cB<|CW.quiet mixedP (by kernel_rfl) hs ?_
       refine qm<|qm<|qy<|qm<|qy<|qm ?_
       refine qy ?_;(first | refine QL.val rfl (fun w hs=>run_ixSlN u24 ty76 rfl rfl (by omega)) ?_ | refine QL.val rfl (fun w hs=>run_ixSl u24 ty76 rfl rfl (by omega)) ?_)
       refine qy<|qL ty76 rfl (fun w hs=>hocell hs (fun q hq=>mem_append_left _ hq))<|qy<|qV (fun w hs=>run_toString u76 u9 u5 rfl (husl hs (fun q hq=>by simp only[mem_append,mem_cons] at hq⊢;rcases hq with hq | hq <;> simp[hq])))<|qy<|qm<|qy<|qm ?_
       refine qy ?_;(first | refine QL.val rfl (fun w hs=>run_ixSlN u24 ty76 rfl rfl (by omega)) ?_ | refine QL.val rfl (fun w hs=>run_ixSl u24 ty76 rfl rfl (by omega)) ?_)
       refine qy<|qL ty76 rfl (fun w hs=>hbcell hs (fun q hq=>by simp[hq]))<|qy<|qV (fun w hs=>run_toString u76 u9 u5 rfl (htsl hs (fun q hq=>by simp only[mem_append,mem_cons] at hq⊢;rcases hq with hq | hq <;> simp[hq])))<|qy<|qV (fun w hs=>run_strEq rfl rfl)<|qP<|qA<|QL.nil (fun w hs=>?_)
       refine cr<|wm<|wP ((q+1:Nat):Int)<|wA<|wZ<|(show _∧_ from⟨rfl,_,?_,q+1,_,hql,rfl,hs,rfl,rfl,rfl,rfl,rfl,rfl,rfl,rfl,trivial⟩)
       omega
     ·cases h
    ·obtain rfl:q=O.length:=by omega
     refine cq<|sr<|wm<|wm<|wL u24 rfl<|lF<|wZ<|CW.cond rfl (fun h=>?_) (fun h=>?_)
     ·cases h
     refine CW.exit ?_
     exact⟨rfl,th,hs,rfl,rfl,rfl,rfl,rfl,rfl,rfl,trivial⟩
   clear hs hf
   rintro f w ⟨th,hs,hf⟩
   have ob:=hf.chain
   obtain⟨g,rfl⟩:=ob
   cases th with
   | true=>
    refine sr<|wm<|wN rfl<|wZ<|CW.cond rfl (fun h=>?_) (fun h=>?_)
    ·cases h
    refine ck<|cr<|wm<|wP ((i+1:Nat):Int)<|wA<|wZ<|(show _∧_ from⟨rfl,_,?_,i+1,vo,Lo,O,hlt,rfl,hO,hOo,by omega,hs,rfl,rfl,rfl,rfl,rfl,rfl,trivial⟩)
    omega
   | false=>
    refine sr<|wm<|wN rfl<|wZ<|CW.cond rfl (fun h=>?_) (fun h=>?_)
    ·skip
     refine cr<|wm<|wm<|wm<|wI u24 ty76 rfl rfl<|wl ty76 rfl (hbcell hs (fun q hq=>by simp[hq]))<|WL.buildSlice (cs:=[.slice ta t.2.length tc]) (vs:=[(0,.slice ta t.2.length tc)]) u24 ty76 rfl (by decide) rfl (filled_s _ _ rfl) rfl hs (fun b76 w hs=>?_)
     have hsl76:Sl w 1 (.slice (some ⟨b76,0,none⟩) 1 1) 1 [Value.slice ta t.2.length tc]:=.own1 hs rfl
     replace hs:=Step.r5 (A:=Lo) (B:=Lv42) hs
     refine WL.append u24 u24 ty76 rfl (by decide) rfl rfl (hO) (hs) (hsl76) (Cells1.of_all rfl) (by omega) rfl (fun v77 Lv77 w hv77 hs=>?_)
     refine wA<|wZ ?_
     replace hs:=Step.r6 (A:=Lv77) (B:=Lv42) hs
     have hO2:OwnSl 76 1 v77 (O++[t]).length (cellsB (O++[t])) Lv77:=by
      rw[length_append,cellsB_snoc,htf];exact hv77
     refine cr<|wm<|wP ((i+1:Nat):Int)<|wA<|wZ<|(show _∧_ from⟨rfl,_,?_,i+1,v77,Lv77,O++[t],hlt,rfl,hO2,hOo.app (fun u hu=>by obtain rfl:=mem_singleton.1 hu;exact hto),?_,hs,rfl,rfl,rfl,rfl,rfl,rfl,trivial⟩)
     ·omega
     ·rw[length_append,length_singleton];omega
    ·cases h
  ·cases h
 ·obtain rfl:i=B2.length:=by omega
  replace hs:=Step.r7 (A:=Lo) (B:=Lv42) hs
  have hfr:=frontL_len (x:=y) hk
  have hfl:(u8s (frontL y k)).length=32:=by rw[u8s,length_map,hfr]
  refine cq<|sr<|wm<|wm<|wL u24 rfl<|lF<|wZ<|CW.cond rfl (fun h=>?_) (fun h=>?_)
  ·cases h
  refine CW.exit<|sr<|wm<|wm<|wE rfl (run_call en110 rfl rfl) (digest6_spec (x:=y) w (hv10.slW fun q hq=>hs.has q (by simp[hq])) (by omega) hk1 hk) ?_
  rintro e w ⟨rfl,hq3⟩
  refine⟨_,rfl,?_⟩
  replace hs:=hs.callE hq3
  refine wm<|WL.storeAll ty44 rfl rfl ((hfl)) ((Cells1.u8s _)) hs (by rfl) (fun w hs=>?_)
  refine wA<|wA<|wZ<|CW.ret ?_
  refine fin_cellTmp2 rfl rfl (run_loadVarN ty44 hfl hs.a0) ?_
  exact⟨frontL y k,vo,Lo,O,L10++D1,0,rfl,hfr,hO,hOo,by omega,(by
   have h:=hs.tail
   refine Step.dropL (L1:=Lv42) (h.perm ?_)
   exact perm_append_comm_assoc _ _ _)⟩
section
variable{S:List Nat}{A L L' R R' D D' W X:OL}{w0 w w':World}
theorem Lives.sub{L L2:OL}{w:World} (h:Lives L w) (hs:L2.Sublist L):Lives L2 w:=
 Step.own (L1:=L2) (L:=[]) (by
  rw[append_nil]
  exact(⟨h.chg,(h.nodup).sublist (hs.map _),fun p hp=>h.has p (hs.subset hp),fun p hp=>h.new p (hs.subset hp)⟩:Step (L.map (·.1)) L2 w w))
theorem Two.live (hs:Step S (A++(L++(R++D))) w0 w):Lives (L++D) w:=(Own.live hs).sub (by
 exact(List.Sublist.refl L).append (sublist_append_right R D))
theorem Two.rlive (hs:Step S (A++(L++(R++D))) w0 w):Lives (R++D) w:=Own.live (A:=A++L) (by rw[append_assoc];exact hs)
theorem Two.put (hs:Step S (A++(L++(R++D))) w0 w) (hq:Step (L.map (·.1)) (L'++D') w w'):Step S (A++(L'++(R++(D'++D)))) w0 w':=(Own.put hs hq).perm (by
 have h:(D'++R).Perm (R++D'):=perm_append_comm
 have h2:=(h.append_right D).append_left (A++L')
 simpa[append_assoc] using h2)
theorem Two.set (hs:Step S (A++(L++(R++D))) w0 w) (hq:Step (L.map (·.1)) L' w w'):Step S (A++(L'++(R++D))) w0 w':=Own.set hs hq
theorem Two.rput (hs:Step S (A++(L++(R++D))) w0 w) (hq:Step (R.map (·.1)) (R'++D') w w'):Step S (A++(L++(R'++(D'++D)))) w0 w':=by
 have h:=Own.put (A:=A++L) (L:=R) (by rw[append_assoc];exact hs) hq
 rwa [append_assoc] at h
theorem Two.rset (hs:Step S (A++(L++(R++D))) w0 w) (hq:Step (R.map (·.1)) R' w w'):Step S (A++(L++(R'++D))) w0 w':=by
 have h:=Own.set (A:=A++L) (L:=R) (by rw[append_assoc];exact hs) hq
 rwa [append_assoc] at h
theorem OutE.new{v:Value}{y:U8} (hs:Step S X w0 w) (h:Sl w0 1 v y.length (u8s y)) (hO:OutE v y S) (hL:∀p∈L,p∈X):OutE v y (L.map (·.1)):=by
 rcases hO with hO | hO
 ·exact .inl hO
 obtain⟨hl,⟨a,c,rfl,h0⟩ | ⟨b,off,c,rfl,hat⟩⟩:=h
 ·exact .inl (eq_nil_of_length_eq_zero h0)
 ·by_cases hy:y=[]
  ·exact .inl hy
  ·refine .inr fun hm=>?_
   have hb:=hat.lt (by simpa[u8s] using hy)
   have ob:=mem_map.1 hm
   obtain⟨p,hp,hpe⟩:=ob
   have hpe':p.1=b:=hpe
   rcases hs.new p (hL p hp) with h1 | h1
   ·exact hO (by rw[←hpe'];exact h1)
   ·omega
end
theorem put_len (s:AS) (hk:s.k≤32) (y:U8):(s.put y).1.length=32:=by
 have hgo:∀r:List UInt8×Nat×AS,r=(match ({ s with puts:=s.puts+1 }:AS).lay (frontL y s.k) y with | some s2=>(frontL y s.k,0,s2) | none=>(zD,43,{ s with puts:=s.puts+1 }))→r.1.length=32:=by
  intro r hr
  cases hl:({ s with puts:=s.puts+1 }:AS).lay (frontL y s.k) y with
  | none=>rw[hl] at hr;rw[hr];exact zD_len
  | some s2=>rw[hl] at hr;subst hr;exact frontL_len hk
 unfold AS.put
 simp only
 split
 ·exact zD_len
 ·split
  ·split
   ·exact frontL_len hk
   ·split
    ·exact zD_len
    ·exact hgo _ rfl
  ·exact hgo _ rfl
theorem plant_k' (s:AS) (d y:U8):(s.plant d y).2.k=s.k:=by
 unfold AS.plant
 split
 ·rfl
 ·split
  ·rfl
  ·split
   ·rename_i s2 hl
    exact(lay_k hl).trans rfl
   ·rfl
def Small (s:AS):Prop:=∀b∈s.X,b.x.length≤1048576
theorem Small.lay {s s':AS}{d x:U8} (h:Small s) (hx:x.length≤1048576) (hl:s.lay d x=some s'):Small s':=by
 unfold AS.lay at hl
 split at hl
 ·obtain rfl:=(Option.some.inj hl).symm
  exact fun b hb=>(insX_mem hb).elim (fun e=>by rw[e];exact hx) (h b)
 ·cases hl
theorem Small.put{s:AS} (h:Small s) (y:U8):Small (s.put y).2.2:=by
 have h1:Small { s with puts:=s.puts+1 }:=h
 unfold AS.put
 simp only
 split
 ·exact h1
 ·rename_i hy
  have hgo:∀{r:List UInt8×Nat×AS},r=(match ({ s with puts:=s.puts+1 }:AS).lay (frontL y s.k) y with | some s2=>(frontL y s.k,0,s2) | none=>(zD,43,{ s with puts:=s.puts+1 }))→Small r.2.2:=fun {r} hr=>by
   cases hl:({ s with puts:=s.puts+1 }:AS).lay (frontL y s.k) y with
   | none=>rw[hl] at hr;rw[hr];exact h1
   | some s2=>rw[hl] at hr;rw[hr];exact h1.lay (by omega) hl
  split
  ·split
   ·exact h1
   ·split
    ·exact h1
    ·exact hgo rfl
  ·exact hgo rfl
theorem Small.plant{s:AS} (h:Small s) (d y:U8):Small (s.plant d y).2:=by
 unfold AS.plant
 split
 ·exact h
 ·split
  ·exact h
  ·rename_i hy
   cases hl:s.lay d y with
   | none=>exact h
   | some s2=>exact h.lay (by omega) hl
theorem Small.evict{s:AS} (h:Small s) (d:U8):Small (s.evict d):=fun b hb=>h b (mem_filter.1 hb).1
theorem Small.new (k c:Nat):Small (newS k c):=fun b hb=>by cases hb
theorem Small.get{s:AS} (h:Small s) (d:U8):(s.get d).1.length≤1048576:=by
 unfold AS.get
 split
 ·exact Nat.zero_le _
 ·rename_i b hb
  split
  ·exact h b (findX_some hb).1
  ·exact Nat.zero_le _
def w8C (bp br:Nat) (vR:Value):List Value:=[.pointer (some ⟨bp,0,none⟩),.pointer (some ⟨br,0,none⟩),vR]
structure MX (bw bp br:Nat) (G:(List (Nat×Obj))) (w0:World) (s:AS) (roots:List (List UInt8)) (vR:Value) (LR L R D:(List (Nat×Obj))) (w:World):Prop where
 pr:PRep bp s D L
 rr:RRep br s D R
 ok:s.Ok
 small:Small s
 vr:OwnSl 44 32 vR roots.length (digsL roots) LR
 r32:∀d∈roots,d.length=32
 hs:Step [] (G++((bw,blk 42 (w8C bp br vR))::(LR++(L++(R++D))))) w0 w
section
variable{bw bp br n:Nat}{G A:OL}{w0 w w':World}{s:AS}{roots:List (List UInt8)}{vR v:Value}{LR L R D:OL}{y:U8}
theorem MX.add (h:MX bw bp br G w0 s roots vR LR L R D w) (hq:Step [] A w w'):MX bw bp br (A++G) w0 s roots vR LR L R D w':=⟨h.pr,h.rr,h.ok,h.small,h.vr,h.r32,by rw[append_assoc];exact Step.call0 h.hs hq⟩
theorem MX.drop (h:MX bw bp br (A++G) w0 s roots vR LR L R D w):MX bw bp br G w0 s roots vR LR L R D w:=⟨h.pr,h.rr,h.ok,h.small,h.vr,h.r32,Step.dropL (L1:=A) (by rw[←append_assoc];exact h.hs)⟩
theorem MX.get{p:Nat×Obj} (h:MX bw bp br G w0 s roots vR LR L R D w) (hp:p∈G):w.heap[p.1]?=some p.2:=h.hs.has p (mem_append_left _ hp)
theorem MX.wc (h:MX bw bp br G w0 s roots vR LR L R D w):At w bw 0 (w8C bp br vR):=At.of_blk (h.hs.has (bw,blk 42 (w8C bp br vR)) (by simp))
theorem perm_mx{α:Type}{G LR L R D:List α}{b:α}:(G++(b::(LR++(L++(R++D))))).Perm ((G++(b::LR))++(L++(R++D))):=by simp[append_assoc]
theorem MX.lives (h:MX bw bp br G w0 s roots vR LR L R D w):Lives (L++D) w:=Two.live (A:=G++(_::LR)) (h.hs.perm perm_mx)
theorem MX.rlives (h:MX bw bp br G w0 s roots vR LR L R D w):Lives (R++D) w:=Two.rlive (A:=G++(_::LR)) (h.hs.perm perm_mx)
def Src (G:(List (Nat×Obj))) (w0:World) (v:Value) (y:(List UInt8)):Prop:=Sl w0 1 v y.length (u8s y)∨Held G v y
theorem Src.sl{X:OL} (h:Src G w0 v y) (hs:Step [] X w0 w) (hG:∀p∈G,p∈X):Sl w 1 v y.length (u8s y):=by
 rcases h with h | h
 ·exact h.step0 hs
 ·exact h.sl fun p hp=>hs.has p (hG p hp)
theorem Src.out{M Y:OL} (h:Src G w0 v y) (hs:Step [] (M++(G++Y)) w0 w):OutE v y (M.map (·.1)):=by
 rcases h with h | h
 ·exact OutE.new hs h (.inr (outside_nil _)) fun p hp=>mem_append_left _ hp
 ·refine .inr (h.out fun p hp hm=>?_)
  have hn:=hs.nodup
  rw[map_append,nodup_append] at hn
  exact hn.2.2 p.1 hm p.1 (mem_map_of_mem (mem_append_left _ hp)) rfl
theorem perm_o1{α:Type}{G LR L R D:List α}{b:α}:(G++(b::(LR++(L++(R++D))))).Perm (L++(G++(b::(LR++(R++D))))):=by
 classical exact perm_iff_count.2 fun x=>by simp only[count_append,count_cons];omega
theorem perm_o2{α:Type}{G LR L R D:List α}{a b:α}:(a::((G++(b::LR))++(L++(R++D)))).Perm (R++(G++(a::b::(LR++(L++D))))):=by
 classical exact perm_iff_count.2 fun x=>by simp only[count_append,count_cons];omega
theorem perm_o3{α:Type}{G LR L R D:List α}{a c b:α}:(c::a::((G++(b::LR))++(L++(R++D)))).Perm (c::a::(G++(b::(LR++(L++(R++D)))))):=by
 classical exact perm_iff_count.2 fun x=>by simp only[count_append,count_cons];omega
set_option maxHeartbeats 8000000 in
theorem MX.put (h:MX bw bp br G w0 s roots vR LR L R D w) (few:s.Few n) (hn:n<1000000000) (hv:Src G w0 v y) (hr:Room v) (hy:y.length<1099511627776) :
  CP 60 #[pt bw,v] w fun e w'=>e=.returned (.bool true)∧∃L' R' D',MX bw bp br G w0 (s.put y).2.2 roots vR LR L' R' D' w':=by
 have hs:=h.hs
 have ok:=h.ok
 have hpl:=put_len s ok.k2 y
 have hdl:(u8s (s.put y).1).length=32:=by rw[u8s,length_map,hpl]
 have hput:=put_abs h.pr ok few (by omega) h.lives (hv.sl hs fun p hp=>mem_append_left _ hp) hr (hv.out (hs.perm perm_o1)) hy
 have hrput:=fun{w1:World}{D1:OL} h1 h2 h3=>rput_abs (w0:=w1) (h.rr.mono (D':=D1++D) mem_right) ok few (by omega) h1 (y:=y) (v:=v) h2 h3 hy
 have hok:=ok.put y
 have hsm:=h.small.put y
 have ob:∃r,s.put y=r:=⟨_,rfl⟩
 obtain⟨r,hre⟩:=ob
 simp only[hre] at hput hrput hpl hdl hok hsm
 rw[hre]
 replace hs:=hs.perm perm_mx
 refine calls (n:=35) Tryz.func60 rfl rfl rfl ?_
 refine sr<|wA<|wZ<|sr<|wm<|wn rfl<|wF 0 u42 rfl ty39 rfl<|wl ty39 rfl ((h.wc.cell (j:=0) rfl))<|wm<|wE rfl (run_call en36 rfl rfl) (hput) ?_
 rintro e w ⟨L1,D1,rfl,hP1,hq⟩
 refine⟨_,rfl,?_⟩
 replace hs:=Two.put hs hq
 refine wm<|wx rfl rfl<|wx rfl rfl<|WL.alloc ty44 rfl hs (fun b5 w hs=>?_)
 refine WL.storeAll ty44 rfl rfl ((hdl)) ((Cells1.u8s _)) hs (by rfl) (fun w hs=>?_)
 refine wA<|wZ ?_
 have hwc:At w bw 0 (w8C bp br vR):=At.of_blk (hs.has (bw,blk 42 (w8C bp br vR)) (by simp))
 refine sr<|wm<|wn rfl<|wF 1 u42 rfl ty40 rfl<|wl ty40 rfl ((hwc.cell (j:=1) rfl))<|wm<|wE rfl (run_call en74 rfl rfl) (hrput (Two.rlive (A:=_::(G++(_::LR))) hs) (hv.sl hs fun p hp=>by simp[hp]) (hv.out (hs.perm perm_o2))) ?_
 rintro e w ⟨R1,D2,rfl,hR1,hq2⟩
 refine⟨_,rfl,?_⟩
 replace hs:=Two.rput (A:=_::(G++(_::LR))) hs hq2
 refine wm<|wx rfl rfl<|wx rfl rfl<|WL.alloc ty44 rfl hs (fun b7 w hs=>?_)
 refine WL.storeAll ty44 rfl rfl ((hdl)) ((Cells1.u8s _)) hs (by rfl) (fun w hs=>?_)
 refine wA<|wZ<|sr<|wR ty44 rfl hdl hs.a1<|wR ty44 rfl hdl hs.a0<|wV (run_bT (run_eqDig hpl hpl rfl rfl) rfl)<|wm<|wy<|wm<|wy<|wm<|wy<|wV (run_bT (run_eql rfl rfl) (by rfl))<|pT<|wA<|wZ ?_
 refine CW.ret ?_
 refine fin_ret1 rfl ?_
 have hs2:=(hs.perm perm_o3).tail.tail
 exact⟨rfl,L1,R1,D2++(D1++D),hP1.mono mem_right,hR1,hok,hsm,h.vr,h.r32,hs2⟩
end
theorem RRep.look{br:Nat}{s:AS}{D R:OL} (h:RRep br s D R) (hl:∀b∈s.X,b.d.length=32) :
  ∃a c,s.X.length≤c∧∀{w:World},(∀p∈R,w.heap[p.1]?=some p.2)→At w br 0 (rsC s.k s.cap s.last (.slice a s.X.length c) s.gets s.puts)∧∀(i:Nat) (b:Blb),s.X[i]?=some b→∃bx,a=some ⟨bx,0,none⟩∧At w bx (0+i*34) (u8s b.d):=by
 obtain⟨v,Lv,T,rfl,ho,hv⟩:=h
 have ob:=ho.form
 obtain⟨a,c,rfl⟩:=ob
 have hroom:s.X.length≤c:=ho.roomW (by omega)
 refine⟨a,c,hroom,fun {w} hw=>⟨At.of_blk (hw (br,blk 54 (rsC s.k s.cap s.last (.slice a s.X.length c) s.gets s.puts)) (by simp)),fun i b hb=>?_⟩⟩
 have hlt:=(List.getElem?_eq_some_iff.1 hb).1
 have ob:=At.ownSl ho (w:=w) (fun p hp=>hw p (by simp[hp])) (by omega)
 obtain⟨bx,cx,hbe,hat⟩:=ob
 cases hbe
 have ob:=hv.at hb
 obtain⟨t,ht,h1,h2,h3⟩:=ob
 refine⟨bx,rfl,?_⟩
 have h4:=(hat.rowT (hv.len32 hl) ht).take 32
 rw[rbC_fst (by rw[h1];exact hl b (mem_of_getElem? hb)),h1] at h4
 exact h4
def d123:(List UInt8):=[1,2,3]++List.replicate 29 0
theorem bld_d123 (w:World):(Instr.build 44 #[(0,.int .u8 1),(1,.int .u8 2),(2,.int .u8 3)]).run Tryz.prog w=.ok (.agg (u8s d123).toArray) w:=by kernel_rfl
def rootF (roots:List (List UInt8)) (X:List Blb) (z:Int):(List UInt8):=
 if roundZ z (2*roots.length+X.length+1)<2*roots.length then roots.getD (roundZ z (2*roots.length+X.length+1) % roots.length) zD
 else if roundZ z (2*roots.length+X.length+1) - 2*roots.length<X.length then ((X[roundZ z (2*roots.length+X.length+1) - 2*roots.length]?).map (·.d)).getD zD
 else d123
theorem rootF_len{roots:List (List UInt8)}{X:List Blb} (hr:∀d∈roots,d.length=32) (hX:∀b∈X,b.d.length=32) (z:Int):(rootF roots X z).length=32:=by
 have hz:zD.length=32:=by simp[zD]
 unfold rootF
 split
 ·rw[getD_eq_getElem?_getD]
  cases h:roots[roundZ z (2*roots.length+X.length+1) % roots.length]? with
  | none=>exact hz
  | some d=>exact hr d (mem_of_getElem? h)
 ·split
  ·cases h:X[roundZ z (2*roots.length+X.length+1) - 2*roots.length]? with
   | none=>exact hz
   | some b=>exact hX b (mem_of_getElem? h)
  ·simp[d123]
section
variable{bw bp br n:Nat}{G A:OL}{w0 w w':World}{s:AS}{roots:List (List UInt8)}{vR v:Value}{LR L R D:OL}{y:U8}{z:Int}
theorem perm_rm{α:Type}{G LR L R D:List α}{b p:α} (hp:p∈R):p∈(G++(b::(LR++(L++(R++D))))):=by simp[hp]
set_option maxHeartbeats 8000000 in
theorem root8_spec (hwc:At w bw 0 (w8C bp br vR)) (hdg:Dgs w vR roots) (hrr:RRep br s D R) (hR:∀p∈R,w.heap[p.1]?=some p.2) (ok:s.Ok) (hl:roots.length≤1000000) (hz : -9223372036854775808≤z∧z≤9223372036854775807) :
  CP 18 #[pt bw,.int .i64 z] w (Ret0 (.agg (u8s (rootF roots s.X z)).toArray) w):=by
 have hs:Step [] [] w w:=Step.refl w
 have ob:=hrr.look ok.len
 obtain⟨xa,xc,hxc,hlook⟩:=ob
 have ob:=hlook (w:=w) hR
 obtain⟨hrc,hrow⟩:=ob
 have hxl:=used_len s.X
 have hxu:=ok.used
 have ob:=hdg.form
 obtain⟨va,vc,rfl⟩:=ob
 have ob:∃m,2*roots.length+s.X.length+1=m:=⟨_,rfl⟩
 obtain⟨m,hm⟩:=ob
 have hrnd:=fun w=>roundL_spec (a:=z) (n:=m) (by omega) (by omega) hz w
 have hrlt:=roundZ_lt (a:=z) (n:=m) (by omega)
 have hlen:=rootF_len (z:=z) hdg.len ok.len
 have ob:∃d,rootF roots s.X z=d:=⟨_,rfl⟩
 obtain⟨d,hd⟩:=ob
 have hd0:=hd
 unfold rootF at hd
 rw[hm] at hd
 rw[hd0] at hlen⊢
 have ob:∃k,roundZ z m=k:=⟨_,rfl⟩
 obtain⟨k,hk⟩:=ob
 rw[hk] at hrlt hd
 simp only[hk] at hrnd
 have hdl:(u8s d).length=32:=by rw[u8s,length_map,hlen]
 have hzl:(u8s zD).length=32:=by simp[u8s,zD]
 refine calls (n:=67) Tryz.func18 rfl rfl rfl ?_
 refine sr<|WL.alloc ty44 rfl hs (fun b4 w hs=>?_)
 refine wZ<|sr<|wm<|wn rfl<|wF 2 u42 rfl ty35 rfl<|wl ty35 rfl (((hwc.step hs.clear (by simp)).cell (j:=2) rfl))<|wL u35 rfl<|wA<|wZ<|sr<|wm<|wm<|wV (run_mul (c:=((2*roots.length:Nat):Int)) rfl rfl (by omega) (by omega))<|wm<|wn rfl<|wF 1 u42 rfl ty40 rfl<|wl ty40 rfl (((hwc.step hs.clear (by simp)).cell (j:=1) rfl))<|wn rfl<|wF 3 u54 rfl ty52 rfl<|wl ty52 rfl (((hrc.step hs.clear (by simp)).cell (j:=3) rfl))<|wL u52 rfl<|wP ((2*roots.length+s.X.length:Nat):Int) ?_
 refine wP ((m:Nat):Int)<|wE rfl (run_call en46 rfl rfl) (hrnd _) ?_
 rintro e w ⟨rfl,hq⟩
 refine⟨_,rfl,?_⟩
 replace hs:=hs.callE hq
 refine wA<|wZ ?_
 by_cases c1:k<2*roots.length
 ·rw[if_pos c1] at hd
  have hkn:k % roots.length<roots.length:=Nat.mod_lt _ (by omega)
  have hkd:roots[k % roots.length]?=some d:=by
   rw[getD_eq_getElem?_getD,getElem?_eq_getElem hkn,Option.getD_some] at hd
   rw[getElem?_eq_getElem hkn,hd]
  have ob:=hdg.at hkd
  obtain⟨b,off,c,hbe,hat⟩:=ob
  cases hbe
  refine cq<|sr<|wm<|wm<|wV (run_mul (c:=((2*roots.length:Nat):Int)) rfl rfl (by omega) (by omega))<|lT<|wZ<|CW.cond rfl (fun h=>?_) (fun h=>?_)
  ·refine cq<|CW.quietT (l1:=[_,_,_,_,_,_,_,_,_]) (l2:=[_]) 9 rfl mixedP rfl (by kernel_rfl) hs ?_
   refine qm<|qn rfl<|qF 2 u42 rfl ty35 rfl<|qL ty35 rfl (fun w hs=>(hwc.step hs.clear (by simp)).cell (j:=2) rfl)<|qm<|qm<|qV (fun w hs=>run_remN (n:=k) (m:=roots.length) rfl rfl (by omega))<|qI u35 ty44 rfl rfl<|qV (fun w hs=>run_loadN ty44 rfl hdl (hat.step hs.clear (by simp)))<|QL.nil (fun w hs=>?_)
   refine WL.storeAll ty44 rfl rfl ((hdl)) ((Cells1.u8s _)) hs (by rfl) (fun w hs=>?_)
   refine wZ<|CW.ret ?_
   refine fin_cell1 rfl rfl (run_loadVarN ty44 (by assumption) hs.a0) ?_
   exact⟨rfl,hs.clear⟩
  ·cases h
 rw[if_neg c1] at hd
 by_cases c2:k - 2*roots.length<s.X.length
 ·rw[if_pos c2,getElem?_eq_getElem c2,Option.map_some,Option.getD_some] at hd
  have ob:=hrow (k - 2*roots.length) _ (getElem?_eq_getElem c2)
  obtain⟨bx,hbe,hat⟩:=ob
  subst hbe
  rw[hd] at hat
  refine cq<|sr<|wm<|wm<|wV (run_mul (c:=((2*roots.length:Nat):Int)) rfl rfl (by omega) (by omega))<|lF<|wZ<|CW.cond rfl (fun h=>?_) (fun h=>?_)
  ·cases h
  refine ck<|cq<|sr<|wm<|wm<|wV (run_mul (c:=((2*roots.length:Nat):Int)) rfl rfl (by omega) (by omega))<|wS ((k - 2*roots.length:Nat):Int)<|wm<|wn rfl<|wF 1 u42 rfl ty40 rfl<|wl ty40 rfl (((hwc.step hs.clear (by simp)).cell (j:=1) rfl))<|wn rfl<|wF 3 u54 rfl ty52 rfl<|wl ty52 rfl (((hrc.step hs.clear (by simp)).cell (j:=3) rfl))<|wL u52 rfl<|lT<|wZ ?_
  refine CW.cond rfl (fun h=>?_) (fun h=>?_)
  ·refine sr<|wm<|wn rfl<|wF 1 u42 rfl ty40 rfl<|wl ty40 rfl (((hwc.step hs.clear (by simp)).cell (j:=1) rfl))<|wn rfl<|wF 3 u54 rfl ty52 rfl<|wl ty52 rfl (((hrc.step hs.clear (by simp)).cell (j:=3) rfl))<|wm<|wm<|wV (run_mul (c:=((2*roots.length:Nat):Int)) rfl rfl (by omega) (by omega))<|wS ((k - 2*roots.length:Nat):Int)<|wI u52 ty80 rfl rfl<|wF 0 u80 rfl ty44 rfl<|wR ty44 rfl hdl (hat.step hs.clear (by simp)) ?_
   refine WL.storeAll ty44 rfl rfl ((hdl)) ((Cells1.u8s _)) hs (by rfl) (fun w hs=>?_)
   refine wZ<|CW.ret ?_
   refine fin_cell1 rfl rfl (run_loadVarN ty44 (by assumption) hs.a0) ?_
   exact⟨rfl,hs.clear⟩
  ·cases h
 rw[if_neg c2] at hd
 subst hd
 refine cq<|sr<|wm<|wm<|wV (run_mul (c:=((2*roots.length:Nat):Int)) rfl rfl (by omega) (by omega))<|lF<|wZ<|CW.cond rfl (fun h=>?_) (fun h=>?_)
 ·cases h
 refine ck<|cq<|sr<|wm<|wm<|wV (run_mul (c:=((2*roots.length:Nat):Int)) rfl rfl (by omega) (by omega))<|wS ((k - 2*roots.length:Nat):Int)<|wm<|wn rfl<|wF 1 u42 rfl ty40 rfl<|wl ty40 rfl (((hwc.step hs.clear (by simp)).cell (j:=1) rfl))<|wn rfl<|wF 3 u54 rfl ty52 rfl<|wl ty52 rfl (((hrc.step hs.clear (by simp)).cell (j:=3) rfl))<|wL u52 rfl<|lF<|wZ ?_
 refine CW.cond rfl (fun h=>?_) (fun h=>?_)
 ·cases h
 refine ck<|sr<|wV (run_build rfl (bld_d123 _))<|WL.storeAll ty44 rfl rfl ((hdl)) ((Cells1.u8s _)) hs (by rfl) (fun w hs=>?_)
 refine wZ<|CW.ret ?_
 refine fin_cell1 rfl rfl (run_loadVarN ty44 (by rfl) hs.a0) ?_
 exact⟨rfl,hs.clear⟩
end
structure Stup where
 cap:Int
 vT:Value
 T:List (Value×List It)
 vN:Value
 N:List (Value×List Ent)
 vB:Value
 B:BL
 vE:Value
 E:List Int
 vP:Value
 P:List (Int×Value×(List UInt8))
def Stup.cells (x:Stup):List Value:=[.int .i64 x.cap,x.vT,x.vN,x.vB,x.vE,x.vP]
def plC (t:Int×Value×(List UInt8)):List Value:=[.int .i64 t.1,t.2.1]
structure Stup.Ok (w:World) (x:Stup):Prop where
 cap : -9223372036854775808≤x.cap∧x.cap≤9223372036854775807
 sT:Sl w 1 x.vT x.T.length (x.T.map (·.1))
 T:∀t∈x.T,Its w t.1 t.2∧Room t.1∧∀y∈t.2,y.p.length<4294967281
 sN:Sl w 1 x.vN x.N.length (x.N.map (·.1))
 N:∀t∈x.N,Es w t.1 t.2∧Room t.1
 sB:Sl w 1 x.vB x.B.length (x.B.map (·.1))
 B:∀t∈x.B,Sl w 1 t.1 t.2.length (u8s t.2)∧Room t.1
 sE:Sl w 1 x.vE x.E.length (x.E.map fun z=>.int .i64 z)
 E:∀z∈x.E,-9223372036854775808≤z∧z≤9223372036854775807
 sP:Sl w 2 x.vP x.P.length (x.P.flatMap plC)
 P:∀t∈x.P,(-9223372036854775808≤t.1∧t.1≤9223372036854775807)∧Sl w 1 t.2.1 t.2.2.length (u8s t.2.2)∧Room t.2.1
theorem sl_at1{α:Type}{c:α→Value}{w:World}{v:Value}{l:List α} (h:Sl w 1 v l.length (l.map c)){i:Nat}{t:α} (ht:l[i]?=some t):∃b off cc,v=.slice (some ⟨b,off,none⟩) l.length cc∧w.cell? ⟨b,off+i*1,none⟩=some (c t):=by
 obtain⟨_,⟨a,cc,rfl,h0⟩ | ⟨b,off,cc,rfl,ha⟩⟩:=h
 ·rw[eq_nil_of_length_eq_zero h0] at ht;simp at ht
 ·refine⟨b,off,cc,rfl,ha.cell (j:=i*1) ?_⟩
  rw[Nat.mul_one,getElem?_map,ht];rfl
theorem plC_at:∀{l:List (Int×Value×List UInt8)}{w:World}{b off:Nat},At w b off (l.flatMap plC)→∀{i:Nat}{t:Int×Value×List UInt8},l[i]?=some t→At w b (off+i*2) (plC t)
 | [],w,b,off,_,i,d,h=>by simp at h
 | x::l,w,b,off,ha,0,d,h=>by
  rw[getElem?_cons_zero] at h
  obtain rfl:=Option.some.inj h
  rw[Nat.zero_mul,Nat.add_zero]
  rw[flatMap_cons] at ha
  exact ha.left
 | x::l,w,b,off,ha,i+1,d,h=>by
  rw[flatMap_cons] at ha
  have h2:=ha.right
  have h3:=plC_at (l:=l) h2 (i:=i) (t:=d) h
  rw[show off+(i+1)*2=off+(plC x).length+i*2 by show off+(i+1)*2=off+2+i*2;omega]
  exact h3
theorem sl_atP{w:World}{v:Value}{l:List (Int×Value×List UInt8)} (h:Sl w 2 v l.length (l.flatMap plC)){i:Nat}{t:Int×Value×List UInt8} (ht:l[i]?=some t):∃b off cc,v=.slice (some ⟨b,off,none⟩) l.length cc∧At w b (off+i*2) (plC t):=by
 obtain⟨_,⟨a,cc,rfl,h0⟩ | ⟨b,off,cc,rfl,ha⟩⟩:=h
 ·rw[eq_nil_of_length_eq_zero h0] at ht;simp at ht
 ·exact⟨b,off,cc,rfl,plC_at ha ht⟩
theorem keep1{S:List Nat}{L:OL}{w w':World}{b o:Nat}{v:Value} (h:w.cell? ⟨b,o,none⟩=some v) (hs:Step [] L w w'):w'.cell? ⟨b,o,none⟩=some v:=keepCell h hs
def MI (bw bp br k:Nat) (G:(List (Nat×Obj))) (w0:World) (n m:Nat) (w:World):Prop:=∃s roots vR LR L R D,MX bw bp br G w0 s roots vR LR L R D w∧s.Few n∧s.k=k∧roots.length≤m
section
variable{bw bp br k n m:Nat}{G A:OL}{w0 w w':World}{v:Value}{y:U8}
theorem MI.get{p:Nat×Obj} (h:MI bw bp br k G w0 n m w) (hp:p∈G):w.heap[p.1]?=some p.2:=by
 obtain⟨s,roots,vR,LR,L,R,D,hM,_⟩:=h
 exact hM.get hp
theorem MI.base (h:MI bw bp br k G w0 n m w):Step [] [] w0 w:=by
 obtain⟨s,roots,vR,LR,L,R,D,hM,_⟩:=h
 exact hM.hs.clear
theorem MI.mono {n' m':Nat} (h:MI bw bp br k G w0 n m w) (hn:n≤n') (hm:m≤m'):MI bw bp br k G w0 n' m' w:=by
 obtain⟨s,roots,vR,LR,L,R,D,hM,h1,h2,h3⟩:=h
 exact⟨s,roots,vR,LR,L,R,D,hM,h1.mono hn,h2,by omega⟩
theorem MI.drop (h:MI bw bp br k (A++G) w0 n m w):MI bw bp br k G w0 n m w:=by
 obtain⟨s,roots,vR,LR,L,R,D,hM,h1⟩:=h
 exact⟨s,roots,vR,LR,L,R,D,hM.drop,h1⟩
theorem MI.add (h:MI bw bp br k G w0 n m w) (hq:Step [] A w w'):MI bw bp br k (A++G) w0 n m w':=by
 obtain⟨s,roots,vR,LR,L,R,D,hM,h1⟩:=h
 exact⟨s,roots,vR,LR,L,R,D,hM.add hq,h1⟩
theorem MI.put (h:MI bw bp br k G w0 n m w) (hn:n<1000000000) (hv:Src G w0 v y) (hr:Room v) (hy:y.length<1099511627776) :
  CP 60 #[pt bw,v] w fun e w'=>e=.returned (.bool true)∧MI bw bp br k G w0 (n+1) m w':=by
 obtain⟨s,roots,vR,LR,L,R,D,hM,few,hk,hl⟩:=h
 refine(hM.put few hn hv hr hy).mono ?_
 rintro e w' ⟨he,L',R',D',h2⟩
 exact⟨he,_,roots,vR,LR,L',R',D',h2,few.put y,by rw[put_k];exact hk,hl⟩
end
theorem bld_w8 (a b:Option Addr) (w:World):(Instr.build 42 #[(0,.pointer a),(1,.pointer b)]).run Tryz.prog w=.ok (.agg #[.pointer a,.pointer b,.slice none 0 0]) w:=by kernel_rfl
section
variable{S:List Nat}{A B C D E F G X Y LR:OL}{a b c:Nat×Obj}{w w':World}
theorem Step.in3 (h:Step S (a::b::c::(A++X)) w w'):Step S (A++(a::b::c::X)) w w':=h.perm (perm_append_comm_assoc [a,b,c] A X)
theorem Step.out3 (h:Step S (A++(a::b::c::X)) w w'):Step S (b::c::(A++X)) w w':=Step.tail (p:=a) (h.perm (perm_append_comm_assoc A [a,b,c] X))
theorem Step.s1 (h:Step S (a::(Y++(b::(LR++X)))) w w'):Step S (a::b::(LR++(Y++X))) w w':=h.perm (by classical exact perm_iff_count.2 fun x=>by simp only[count_append,count_cons];omega)
theorem Step.s2 (h:Step S (a::b::(LR++(Y++X))) w w'):Step S (Y++(b::(LR++X))) w w':=Step.tail (p:=a) (h.perm (by classical exact perm_iff_count.2 fun x=>by simp only[count_append,count_cons];omega))
theorem Step.s4 (h:Step S (Y++(b::(LR++X))) w w'):Step S (b::(LR++(Y++X))) w w':=h.perm (by classical exact perm_iff_count.2 fun x=>by simp only[count_append,count_cons];omega)
theorem Step.s5 (h:Step S (b::(LR++(Y++X))) w w'):Step S (Y++(b::(LR++X))) w w':=h.perm (by classical exact perm_iff_count.2 fun x=>by simp only[count_append,count_cons];omega)
theorem Step.out2b (h:Step S (A++(a::b::X)) w w'):Step S (b::(A++X)) w w':=Step.tail (p:=a) (h.perm (perm_append_comm_assoc A [a,b] X))
end
theorem made8_bad{k c:Int} (h:(k<1∨32<k)∨¬(0≤c∧c≤67108864)){x:Stup} (hx:x.cap=c) (w0:World):CP 16 #[.int .i64 k,.agg x.cells.toArray] w0 (Ret0 (.tuple #[.pointer none,.bool true]) w0):=by
 have hs:Step [] [] w0 w0:=Step.refl w0
 obtain⟨er,h1,h2⟩:∃er:Nat,(∀w,CP 56 #[.int .i64 k,.int .i64 c] w (Ret0 (.tuple #[.pointer none,.int .i64 (er:Nat)]) w))∧(∀w,CP 58 #[.int .i64 k,.int .i64 c] w (Ret0 (.tuple #[.pointer none,.int .i64 (er:Nat)]) w)):=by
  by_cases hk:k<1∨32<k
  ·exact⟨3,fun w=>new_width hk w,fun w=>rnew_width hk w⟩
  ·have hc:¬(0≤c∧c≤67108864):=by omega
   have ob:∃m:Nat,k=m:=⟨k.toNat,by omega⟩
   obtain⟨m,rfl⟩:=ob
   exact⟨1,fun w=>new_arg (by omega) (by omega) hc w,fun w=>rnew_arg (by omega) (by omega) hc w⟩
 subst hx
 refine calls (n:=288) Tryz.func16 rfl rfl rfl ?_
 refine sr<|WL.box (cs:=x.cells) rfl rfl rfl hs (fun b3 w hs=>?_)
 refine wA<|wA<|wZ<|sr<|wm<|wF 0 u28 rfl ty3 rfl<|wl ty3 rfl (hs.c0 (v:=.int .i64 x.cap) rfl)<|wE rfl (run_call en56 rfl rfl) (h1 _) ?_
 rintro e w ⟨rfl,hq⟩
 refine⟨_,rfl,?_⟩
 replace hs:=hs.callE hq
 refine wm<|wx rfl rfl<|wx rfl rfl<|wA<|wA<|wZ<|sr<|wm<|wF 0 u28 rfl ty3 rfl<|wl ty3 rfl (hs.c0 (v:=.int .i64 x.cap) rfl)<|wE rfl (run_call en58 rfl rfl) (h2 _) ?_
 rintro e w ⟨rfl,hq⟩
 refine⟨_,rfl,?_⟩
 replace hs:=hs.callE hq
 refine wm<|wx rfl rfl<|wx rfl rfl<|wA<|wA<|wZ<|cq<|sr<|wm<|wm<|wV (run_bF (run_neq rfl rfl) (by exact fun h=>h rfl))<|wm<|wy<|wm ?_
 refine wy<|wV (run_nilNil u39 rfl rfl)<|wy<|wm<|wy<|wV (run_nilNil u40 rfl rfl)<|wy<|wV (run_neqB u4 rfl rfl)<|pF<|wZ<|CW.cond rfl (fun h3=>?_) (fun h3=>?_)
 ·cases h3
 refine ck<|cq<|sr<|wm<|wV (run_nilNil u39 rfl rfl)<|wZ<|CW.cond rfl (fun h4=>?_) (fun h4=>?_)
 ·refine sr<|wA<|wA<|wZ<|CW.ret ?_
  refine fin_ret2 rfl ?_
  exact⟨rfl,hs.clear⟩
 ·cases h4
end Go.Gx
