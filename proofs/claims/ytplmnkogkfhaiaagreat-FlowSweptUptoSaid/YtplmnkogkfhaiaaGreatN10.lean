/- The room that a walk takes: with just so much it goes well again. No program in sight. bounds: walked. FlowBounds, walked. The program's Load: what its closures hold; get: walked. The program's Load: its walk. The program's Load: walked. A walk asks only what it meets; what a Sweep leaves. No progra -/
import Derived.Test.YtplmnkogkfhaiaaGreatN9
import Derived.Test.YtplmnkogkfhaiaaGreatN1
set_option linter.unusedVariables false
set_option linter.unusedSimpArgs false
set_option maxRecDepth 100000
namespace Go.Gx
open Go.Proofs List
attribute [local irreducible] shaL cutD frontL decL decE
def slsh (p:List UInt8):Nat:=p.count 47
structure Pth (x:Std):Prop where
 z:x.dep=0→x.p=[]
 s:x.dep≠0→x.p≠[]∧slsh x.p+1=x.dep
 l:x.p.length≤65*x.dep
theorem name_slsh{n:List UInt8} (h:isName n=true):n≠[]∧slsh n=0:=by
 simp only[isName,Bool.and_eq_true,decide_eq_true_eq,Bool.not_eq_true',any_eq_false] at h
 refine⟨fun e=>?_,count_eq_zero.2 fun hm=>h.2 47 hm (by decide)⟩
 have:=h.1.1
 rw[e] at this
 simp at this
theorem Pth.kid{x:Std}{e:Ent} (h:Pth x) (hn:isName e.name=true):Pth (kidOf x e):=by
 have ob:=name_slsh hn
 obtain⟨h1,h2⟩:=ob
 have h3:=nameLe hn
 have h4:=joinP_le (p:=x.p) h3
 have hl:=h.l
 refine⟨fun h=>absurd h (Nat.succ_ne_zero _),fun _=>?_,?_⟩
 ·show joinP x.p e.name≠[]∧slsh (joinP x.p e.name)+1=x.dep+1
  by_cases hd:x.dep=0
  ·rw[h.z hd,hd]
   exact⟨h1,by show slsh e.name+1=_;rw[h2]⟩
  ·have ob:=h.s hd
   obtain⟨h5,h6⟩:=ob
   rw[joinP,if_neg h5]
   refine⟨by simp,?_⟩
   rw[slsh,count_append,count_cons]
   rw[slsh] at h2 h6
   rw[h2]
   simp only[beq_self_eq_true,if_true]
   omega
 ·show(joinP x.p e.name).length≤65*(x.dep+1)
  omega
structure PLe (t u:WS):Prop where
 n:t.n≤u.n
 b:t.b≤u.b
 l:∀i∈t.l,i∈u.l
section
variable{s:AS}{rm rm':Rm}
theorem kids_pth{x:Std}{y:List UInt8} (h:Pth x):∀z∈kids x y,Pth z∧z.dep=x.dep+1:=fun z hz=>by
 have ob:=mem_map.1 hz
 obtain⟨e,he,rfl⟩:=ob
 exact⟨h.kid (decL_name e he),rfl⟩
theorem visit_items{x:Std}{t:WS}{K:Nat} (hx:x.p.length≤K) (h:∀i∈t.l,i.p.length≤K):∀i∈(visit s rm x t).2.2.l,i.p.length≤K:=by
 unfold visit
 split
 ·exact h
 ·split
  ·exact h
  ·split
   ·exact h
   ·split
    ·split
     ·exact h
     ·exact h
    ·split
     ·exact h
     ·intro i hi
      rcases mem_append.1 hi with hi | hi
      ·exact h i hi
      ·rw[mem_singleton.1 hi];exact hx
theorem visit_kids2{x:Std}{t:WS}:(visit s rm x t).2.1=[]∨(visit s rm x t).2.1=kids x (s.get x.d).1:=by
 unfold visit
 split
 ·exact .inl rfl
 ·split
  ·exact .inl rfl
  ·split
   ·exact .inl rfl
   ·split
    ·split
     ·exact .inl rfl
     ·exact .inr rfl
    ·split <;> exact .inl rfl
theorem push_items{x:Std}{t:WS}{K:Nat} (hx:x.p.length≤K) (h:∀i∈t.l,i.p.length≤K):∀i∈(push x t).l,i.p.length≤K:=by
 unfold push
 split
 ·intro i hi
  rcases mem_append.1 hi with hi | hi
  ·exact h i hi
  ·rw[mem_singleton.1 hi];exact hx
 ·exact h
theorem seqS_items{f:Std→WS→Int×WS}{K:Nat}:∀(l:List Std) (t:WS),(∀y∈l,∀u:WS,(∀i∈u.l,i.p.length≤K)→∀i∈(f y u).2.l,i.p.length≤K)→(∀i∈t.l,i.p.length≤K)→∀i∈(seqS f l t).2.l,i.p.length≤K
 | [],t,_,h=>h
 | y::l,t,hf,h=>by
  rw[seqS]
  split
  ·exact hf y (by simp) t h
  ·exact seqS_items l _ (fun z hz=>hf z (by simp[hz])) (hf y (by simp) t h)
theorem standP_items:∀(n:Nat) (x:Std) (t:WS),Pth x→n+x.dep=34→(∀i∈t.l,i.p.length≤2210)→∀i∈(standP s rm n x t).2.l,i.p.length≤2210
 | 0,x,t,_,_,h=>h
 | n+1,x,t,hx,hn,h=>by
  have hl:=hx.l
  have h1:=visit_items (s:=s) (rm:=rm) (x:=x) (K:=2210) (by omega) h
  rw[standP]
  split
  ·exact h1
  ·refine seqS_items _ _ (fun y hy u hu=>?_) h1
   have hy2:Pth y∧y.dep=x.dep+1:=by
    rcases visit_kids2 (s:=s) (rm:=rm) (x:=x) (t:=t) with hk | hk
    ·rw[hk] at hy;cases hy
    ·rw[hk] at hy;exact kids_pth hx y hy
   have hyl:=hy2.1.l
   have hyd:=hy2.2
   exact standP_items n y (push y u) hy2.1 (by omega) (push_items (by omega) hu)
end
def deepL (l:List WI):Nat:=l.foldl (fun m i=>max m (slsh i.p+1)) 0
def rmG:Rm:=rmOf 65536 32 67108864
theorem rmG_ok:rmG.Ok:=⟨by decide,by decide,by decide⟩
theorem bounds_len{s:AS}{d:List UInt8}:∀i∈(runs s rmG [rootS d] ws0).2.l,i.p.length≤2210:=by
 rw[runs_root]
 exact standP_items 34 (rootS d) ws0 ⟨fun _=>rfl,fun k=>absurd rfl k,Nat.zero_le _⟩ rfl (fun i hi=>by cases hi)
end Go.Gx
namespace Go.Gx
open Go.Proofs List
attribute [local irreducible] shaL cutD frontL
section
variable{P:Program}{f:Slots}{w:World}{d:Option Tmp}{ty:TypeId}{pos:String}{af:Array Edge}{x y:Operand}{ats:Array TypeId}{k:IntKind}{a b c:Int}
end
theorem great_spec (w0:World):CP 28 #[] w0 (Ret0 (.agg #[.int .i64 65536,.int .i64 32,.int .i64 67108864]) w0):=by
 have hs:Step [] [] w0 w0:=Step.refl w0
 refine calls (n:=2) Tryz.func28 rfl rfl rfl ?_
 refine sr<|WL.alloc ty30 rfl hs (fun b0 w hs=>?_)
 refine wZ<|sr<|wV (run_build rfl (bld_room _ _ _ _))<|WL.storeAll ty30 rfl rfl ((by rfl)) ((Cells1.of_all rfl)) hs (by rfl) (fun w hs=>?_)
 refine wZ<|CW.ret ?_
 refine fin_cell1 rfl rfl (run_loadVarN ty30 (by rfl) hs.a0) ?_
 exact⟨rfl,hs.clear⟩
def bndV (r:Int×WS):Value:=if r.1=0 then .tuple #[.agg #[.int .i64 (r.2.n:Nat),.int .i64 (deepL r.2.l:Nat),.int .i64 (r.2.b:Nat)],.bool true] else .tuple #[.agg #[.int .i64 0,.int .i64 0,.int .i64 0],.bool false]
section
variable{bw bp br N:Nat}{s:AS}{D R:List (Nat×Obj)}{d:List UInt8}{vR:Value}{w0:World}
end
end Go.Gx
namespace Go.Gx
open Go.Proofs Go.RowKit List
attribute [local irreducible] shaL cutD frontL
theorem packR_gotN{s:AS}{g:Nat}{r:Int×WS}{of:List (List UInt8)}:packR (s.gotN g) r of=packR s r of:=rfl
theorem partsM_gotN{s:AS}{g:Nat}{m:List (List UInt8×Bool)}:partsM (s.gotN g) m=partsM s m:=rfl
def rN (n:Int) (i:Nat):Int:=if i=1 then n - 1 else n
def rD (n:Int) (i:Nat):Int:=if i=2 then n - 1 else n
def rB (n:Int) (i:Nat):Int:=if i=3 then n - 1 else n
section
variable{α:Type}{a b c e f g:α}{A B C D:List α}
end
section
variable{wd z:Int}{x:Stup}
end
end Go.Gx
namespace Go.Gx
open Go.Proofs List
attribute [local irreducible] shaL cutD frontL
structure LdK (b3 b8 b9 b10 b11 b12 b13 bp:Nat) (rm:Rm) (D:List (Nat×Obj)):Prop where
 m3:(b3,blk 39 [.pointer (some ⟨bp,0,none⟩)])∈D
 m9:(b9,blk 3 [.int .i64 rm.d])∈D
 m12:(b12,blk 150 [.func (.func 75) #[] #[.pointer (some ⟨b9,0,none⟩),.pointer (some ⟨b10,0,none⟩),.pointer (some ⟨b3,0,none⟩)]])∈D
 m13:(b13,blk 151 [.func (.func 77) #[] #[.pointer (some ⟨b12,0,none⟩),.pointer (some ⟨b8,0,none⟩),.pointer (some ⟨b13,0,none⟩),.pointer (some ⟨b11,0,none⟩)]])∈D
def LdW (b8 b10 b11:Nat) (rm:Rm) (t:WS) (D W:List (Nat×Obj)):Prop:=
 ∃vL LL T,W=(b8,blk 65 [vL])::(b10,blk 3 [.int .i64 (rm.n - t.n)])::(b11,blk 3 [.int .i64 (rm.b - t.b)])::LL∧OwnSl 155 3 vL t.l.length (rowsW T) LL∧T.map (·.1)=t.l∧∀u∈T,Held D u.2 u.1.x
section
variable{b3 b8 b9 b10 b11 b12 b13 bp N:Nat}{rm:Rm}{s:AS}{t:WS}{x:Std}{D D' W L:List (Nat×Obj)}{w0:World}
theorem LdK.mono (h:LdK b3 b8 b9 b10 b11 b12 b13 bp rm D) (hD:∀p∈D,p∈D'):LdK b3 b8 b9 b10 b11 b12 b13 bp rm D':=⟨hD _ h.m3,hD _ h.m9,hD _ h.m12,hD _ h.m13⟩
theorem LdW.mono (h:LdW b8 b10 b11 rm t D W) (hD:∀p∈D,p∈D'):LdW b8 b10 b11 rm t D' W:=by
 obtain⟨vL,LL,T,h1,h2,h3,h4⟩:=h
 exact⟨vL,LL,T,h1,h2,h3,fun u hu=>(h4 u hu).mono hD⟩
theorem Step.inD{S:List Nat}{A W L D:List (Nat×Obj)}{b o:Nat}{T:TypeId}{cs:List Value}{v:Value}{w w':World} (h:Step S (A++(W++(L++D))) w w') (hm:(b,blk T cs)∈D) (ho:cs[o]?=some v):w'.cell? ⟨b,o,none⟩=some v:=
 h.inCell (mem_append_right _ (mem_append_right _ (mem_append_right _ hm))) ho
theorem ldget_spec (hK:LdK b3 b8 b9 b10 b11 b12 b13 bp rm D) (hW:LdW b8 b10 b11 rm t D W) (hR:PRep bp (s.gotN t.g) D L) (ok:s.Ok) (hrm:rm.Ok) (hfew:s.Few N) (hN:N<1000000000000) (hg:t.Good 1) (hd:x.d.length=32) (hdep:x.dep≤34) (hw:Lives (W++(L++D)) w0) :
  CP 75 #[.agg (u8s x.d).toArray,.int .i64 (x.dep:Nat),.pointer (some ⟨b9,0,none⟩),.pointer (some ⟨b10,0,none⟩),.pointer (some ⟨b3,0,none⟩)] w0 fun e w'=>∃v y Lv W' L',e=.returned (.tuple #[v,.int .i64 (look s rm x t).1])∧OwnSl 5 1 v y.length (u8s y) Lv∧
   ((look s rm x t).1=0→y=(s.get x.d).1)∧((look s rm x t).1=0→LdW b8 b10 b11 rm (look s rm x t).2 D W')∧PRep bp (s.gotN (look s rm x t).2.g) D L'∧Step ((W++L).map (·.1)) (W'++(L'++Lv)) w0 w':=by
 obtain⟨vL,LL,T,rfl,hvL,hT,hTD⟩:=hW
 have hn1:=hg.n
 have hg1:=hg.g
 have hrn:=hrm.n
 have hrd:=hrm.d
 have hdl:(u8s x.d).length=32:=by rw[u8s,length_map,hd]
 have hs:Step _ ((b8,blk 65 [vL])::(b10,blk 3 [.int .i64 (rm.n - t.n)])::(b11,blk 3 [.int .i64 (rm.b - t.b)])::(LL++(L++D))) w0 w0:=hw
 refine calls (n:=21) Tryz.func75 rfl rfl rfl ?_
 refine sr<|WL.box (cs:=u8s x.d) rfl rfl rfl hs (fun b5 w hs=>?_)
 refine wA<|wA<|wZ ?_
 by_cases c1:rm.d<x.dep
 ·have hlk:look s rm x t=(33,t):=if_pos c1
  rw[hlk]
  refine cq<|sr<|wm<|wl ty3 rfl ((Step.inD (A:=[_]) (W:=_::_::_::LL) hs hK.m9 rfl))<|wV (run_bT (run_gtr rfl rfl) (by omega))<|wZ<|CW.cond rfl (fun h=>?_) (fun h=>?_)
  ·refine sr<|wA<|wA<|wZ<|CW.ret ?_
   refine fin_ret2 rfl ?_
   exact⟨_,[],[],_,_,rfl,OwnSl.nil _ _,(fun h=>by cases h),(fun h=>by cases h),hR,Step.narrow2 (X:=[]) (W':=_::_::_::LL) hw hs.tail⟩
  ·cases h
 refine cq<|sr<|wm<|wl ty3 rfl ((Step.inD (A:=[_]) (W:=_::_::_::LL) hs hK.m9 rfl))<|wV (run_bF (run_gtr rfl rfl) (by omega))<|wZ<|CW.cond rfl (fun h=>?_) (fun h=>?_)
 ·cases h
 by_cases c2:rm.n<(t.n:Int)+1
 ·have hlk:look s rm x t=(62,t.node):=by rw[look,if_neg c1,if_pos c2]
  rw[hlk]
  refine ck<|cq<|sr<|wl ty3 rfl (hs.c2 (v:=.int .i64 (rm.n - t.n)) rfl)<|wV (run_bT (run_lss rfl rfl) (by omega))<|wZ<|CW.cond rfl (fun h=>?_) (fun h=>?_)
  ·refine sr<|wA<|wA<|wZ<|CW.ret ?_
   refine fin_ret2 rfl ?_
   exact⟨_,[],[],_,_,rfl,OwnSl.nil _ _,(fun h=>by cases h),(fun h=>by cases h),hR,Step.narrow2 (X:=[]) (W':=_::_::_::LL) hw hs.tail⟩
  ·cases h
 have hlk:look s rm x t=((((s.get x.d).2:Nat):Int),t.node.meet x):=by rw[look,if_neg c1,if_neg c2]
 rw[hlk]
 refine ck<|cq<|sr<|wl ty3 rfl (hs.c2 (v:=.int .i64 (rm.n - t.n)) rfl)<|wV (run_bF (run_lss rfl rfl) (by omega))<|wZ<|CW.cond rfl (fun h=>?_) (fun h=>?_)
 ·cases h
 refine ck<|sr<|wl ty3 rfl (hs.c2 (v:=.int .i64 (rm.n - t.n)) rfl)<|wV (run_sub (c:=(rm.n - ((t.n+1:Nat):Int))) rfl rfl (by omega) (by omega))<|WL.store1_2 ty3 rfl rfl (rfl) hs (by first | (simp;done) | omega | (simp only[length_append,length_replicate,length_cons,length_nil,length_set];omega) | (simp[Ent.cells,u8s];done) | exact Nat.le_of_ble_eq_true rfl) (fun w hs=>?_)
 refine wZ ?_
 replace hs:=(show Step _ ((b5,blk 44 (u8s x.d))::(b8,blk 65 [vL])::(b10,blk 3 [.int .i64 (rm.n - ((t.n+1:Nat):Int))])::(b11,blk 3 [.int .i64 (rm.b - t.b)])::(LL++(L++D))) w0 w from hs)
 refine sr<|wl ty39 rfl ((Step.inD (A:=[_]) (W:=_::_::_::LL) hs hK.m3 rfl))<|wV (run_loadN ty44 rfl hdl hs.a0)<|wE rfl (run_call en76 rfl rfl) (get_abs (n:=N+t.g) hR (ok.gotN _) (hfew.gotN _) (by omega) (Own.live (A:=_::_::_::_::LL) hs) hd) ?_
 rintro e w ⟨v,Lv,L1,rfl,hv,hP,hq⟩
 refine⟨_,rfl,?_⟩
 replace hs:=Own.put (A:=_::_::_::_::LL) (L:=L) hs hq
 refine wx rfl rfl<|wx rfl rfl<|wA<|wA<|wZ<|CW.ret ?_
 refine fin_ret2 rfl ?_
 exact⟨v,(s.get x.d).1,Lv,(b8,blk 65 [vL])::(b10,blk 3 [.int .i64 (rm.n - ((t.n+1:Nat):Int))])::(b11,blk 3 [.int .i64 (rm.b - t.b)])::LL,L1,rfl,hv,fun _=>rfl,fun _=>⟨vL,LL,T,rfl,hvL,hT,hTD⟩,hP,Step.narrow2 (W':=_::_::_::LL) hw hs.tail⟩
end
section
variable{S:List Nat}{q:Nat×Obj}{P A X:List (Nat×Obj)}{w w':World}
theorem Step.ldI (h:Step S (q::(P++(A++X))) w w'):Step S (A++(P++X)) w w':=h.tail.perm (perm_append_comm_assoc P A X)
theorem Step.ldO (h:Step S (A++(P++X)) w w'):Step S (P++(A++X)) w w':=h.perm (perm_append_comm_assoc A P X)
theorem Step.ldP{L1 L2:List (Nat×Obj)} (h:Step S (L1++X) w w') (hp:L1.Perm L2):Step S (L2++X) w w':=h.perm (hp.append_right X)
theorem perm6{α:Type} (a b c d e f:α):[a,b,c,d,e,f].Perm [d,a,b,c,e,f]:=by classical exact perm_iff_count.2 fun x=>by simp only[count_cons,count_nil];omega
theorem perm6b{α:Type} (a b c d e f:α):[d,a,b,c,e,f].Perm [a,b,c,d,e,f]:=(perm6 a b c d e f).symm
theorem perm6c{α:Type} (a b c d e f:α):[a,b,c,d,e,f].Perm [f,d,a,b,c,e]:=by classical exact perm_iff_count.2 fun x=>by simp only[count_cons,count_nil];omega
theorem perm6d{α:Type} (a b c d e f:α):[f,d,a,b,c,e].Perm [a,b,c,d,e,f]:=(perm6c a b c d e f).symm
end
def LdPost (c8 c10 c11 bp:Nat) (rm:Rm) (s:AS) (r:Int×WS) (D W L:List (Nat×Obj)) (w0:World) (e:Ending) (w':World):Prop:=
 ∃W' L' D',e=.returned (.int .i64 r.1)∧(r.1=0→LdW c8 c10 c11 rm r.2 (D'++D) W')∧PRep bp (s.gotN r.2.g) (D'++D) L'∧Step ((W++L).map (·.1)) (W'++(L'++D')) w0 w'
section
variable{c3 c8 c9 c10 c11 c12 c13 bp N:Nat}{rm:Rm}{s:AS}
set_option maxHeartbeats 16000000 in
theorem ldw_spec (ok:s.Ok) (hrm:rm.Ok) (hfew:s.Few N) (hN:N<1000000000000):∀(n:Nat){x:Std}{t:WS}{D W L:List (Nat×Obj)}{w0:World},x.dir=true→n+x.dep=34→x.d.length=32→x.p.length≤65*x.dep→t.Good 1→LdK c3 c8 c9 c10 c11 c12 c13 bp rm D→LdW c8 c10 c11 rm t D W→PRep bp (s.gotN t.g) D L→Lives (W++(L++D)) w0→
  CP 77 #[str x.p,.agg (u8s x.d).toArray,.int .i64 (x.dep:Nat),.pointer (some ⟨c12,0,none⟩),.pointer (some ⟨c8,0,none⟩),.pointer (some ⟨c13,0,none⟩),.pointer (some ⟨c11,0,none⟩)] w0 (LdPost c8 c10 c11 bp rm s (standP s rm n x t) D W L w0):=by
 intro n
 induction n with
 | zero=>?_
 | succ m ih=>?_
 all_goals
  intro x t D W L w0 hx hn hd hp hg hK hW hR hw
  have hdl:(u8s x.d).length=32:=by rw[u8s,length_map,hd]
  have hgl:=get_len ok x.d
  have hrd:=hrm.d
  have hs:Step _ (W++(L++D)) w0 w0:=hw
 case zero=>
  have hst:=standP_err (s:=s) (t:=t) hrd.2 hn (by rw[look_deep (by omega)];simp)
  rw[hst]
  have hl33:look s rm x t=(33,t):=look_deep (by omega)
  refine calls (n:=98) Tryz.func77 rfl rfl rfl ?_
  refine sr<|WL.box (cs:=u8s x.d) rfl rfl rfl hs (fun b8 w hs=>?_)
  refine wA<|wZ<|sr<|wl ty150 rfl ((Step.inD (A:=[_]) hs hK.m12 rfl))<|wV (run_loadN ty44 rfl hdl hs.a0)<|wm<|wE rfl (run_callV (cap:=[.pointer (some ⟨c9,0,none⟩),.pointer (some ⟨c10,0,none⟩),.pointer (some ⟨c3,0,none⟩)]) en75 rfl rfl) (ldget_spec hK hW hR ok hrm hfew hN hg hd (by omega) (Lives.mk hs.tail)) ?_
  rintro e w ⟨v,y,Lv,W1,L1,rfl,hvy,hy,hW1,hR1,hq⟩
  refine⟨_,rfl,?_⟩
  replace hs:=Step.wput (A:=[_]) hs hq
  refine wm<|wx rfl rfl<|wx rfl rfl<|wA<|wA<|wZ ?_
  rw[hl33] at hW1 hR1⊢
  refine cq<|sr<|wm<|wV (run_bT (run_neq rfl rfl) (by exact fun h=>by cases h))<|wZ<|CW.cond rfl (fun h=>?_) (fun h=>?_)
  ·refine sr<|wm<|wA<|wZ<|CW.ret ?_
   refine fin_ret1 rfl ?_
   exact⟨W1,L1,Lv,rfl,(fun h=>by cases h),hR1.mono mem_right,Step.narrow2 hw hs.tail⟩
  ·cases h
 case succ=>
  by_cases hl:(look s rm x t).1≠0
  ·rw[standP_err hrd.2 hn hl]
   refine calls (n:=98) Tryz.func77 rfl rfl rfl ?_
   refine sr<|WL.box (cs:=u8s x.d) rfl rfl rfl hs (fun b8 w hs=>?_)
   refine wA<|wZ<|sr<|wl ty150 rfl ((Step.inD (A:=[_]) hs hK.m12 rfl))<|wV (run_loadN ty44 rfl hdl hs.a0)<|wm<|wE rfl (run_callV (cap:=[.pointer (some ⟨c9,0,none⟩),.pointer (some ⟨c10,0,none⟩),.pointer (some ⟨c3,0,none⟩)]) en75 rfl rfl) (ldget_spec hK hW hR ok hrm hfew hN hg hd (by omega) (Lives.mk hs.tail)) ?_
   rintro e w ⟨v,y,Lv,W1,L1,rfl,hvy,hy,hW1,hR1,hq⟩
   refine⟨_,rfl,?_⟩
   replace hs:=Step.wput (A:=[_]) hs hq
   refine wm<|wx rfl rfl<|wx rfl rfl<|wA<|wA<|wZ<|cq<|sr<|wm<|wV (run_bT (run_neq rfl rfl) (by exact hl))<|wZ<|CW.cond rfl (fun h=>?_) (fun h=>?_)
   ·refine sr<|wm<|wA<|wZ<|CW.ret ?_
    refine fin_ret1 rfl ?_
    exact⟨W1,L1,Lv,rfl,(fun h=>absurd h hl),hR1.mono mem_right,Step.narrow2 hw hs.tail⟩
   ·cases h
  have hl0:(look s rm x t).1=0:=by simpa using hl
  refine calls (n:=98) Tryz.func77 rfl rfl rfl ?_
  refine sr<|WL.box (cs:=u8s x.d) rfl rfl rfl hs (fun b8 w hs=>?_)
  refine wA<|wZ<|sr<|wl ty150 rfl ((Step.inD (A:=[_]) hs hK.m12 rfl))<|wV (run_loadN ty44 rfl hdl hs.a0)<|wm<|wE rfl (run_callV (cap:=[.pointer (some ⟨c9,0,none⟩),.pointer (some ⟨c10,0,none⟩),.pointer (some ⟨c3,0,none⟩)]) en75 rfl rfl) (ldget_spec hK hW hR ok hrm hfew hN hg hd (by omega) (Lives.mk hs.tail)) ?_
  rintro e w ⟨v,y,Lv,W1,L1,rfl,hvy,hy,hW1,hR1,hq⟩
  refine⟨_,rfl,?_⟩
  replace hs:=Step.wput (A:=[_]) hs hq
  refine wm<|wx rfl rfl<|wx rfl rfl<|wA<|wA<|wZ ?_
  obtain rfl:=hy hl0
  have hW1:=hW1 hl0
  have hHl:Held (Lv++D) v (s.get x.d).1:=⟨Lv,hvy,fun p hp=>mem_append_left _ hp⟩
  refine cq<|sr<|wm<|wV (run_bF (run_neq rfl rfl) (by exact fun h=>h hl0))<|wZ<|CW.cond rfl (fun h=>?_) (fun h=>?_)
  ·cases h
  by_cases hde:decE (s.get x.d).1≠0
  ·rw[standP_bad hrd.2 hx hn hl0 hde]
   refine ck<|sr<|wm<|wE rfl (run_call en78 rfl rfl) (decode_at _ (hHl.sl fun p hp=>hs.has p (mem_r3 (W:=W1) (R:=L1) hp)) (by omega)) ?_
   rintro e w ⟨u,Le,rfl,hu,hoks,hle,hq⟩
   refine⟨_,rfl,?_⟩
   replace hs:=Step.call0 hs hq
   refine wm<|wx rfl rfl<|wx rfl rfl<|wA<|wA<|wZ<|cq<|sr<|wm<|wV (run_bT (run_neq rfl rfl) (by exact hde))<|wZ<|CW.cond rfl (fun h=>?_) (fun h=>?_)
   ·refine sr<|wm<|wA<|wZ<|CW.ret ?_
    refine fin_ret1 rfl ?_
    exact⟨W1,L1,Lv,rfl,(fun h=>absurd h hde),hR1.mono mem_right,Step.narrow2 hw (Step.dropL hs).tail⟩
   ·cases h
  have hde0:decE (s.get x.d).1=0:=by simpa using hde
  refine ck<|sr<|wm<|wE rfl (run_call en78 rfl rfl) (decode_at _ (hHl.sl fun p hp=>hs.has p (mem_r3 (W:=W1) (R:=L1) hp)) (by omega)) ?_
  rintro e w ⟨u,Le,rfl,hu,hoks,hle,hq⟩
  refine⟨_,rfl,?_⟩
  replace hs:=Step.call0 hs hq
  refine wm<|wx rfl rfl<|wx rfl rfl<|wA<|wA<|wZ<|cq<|sr<|wm<|wV (run_bF (run_neq rfl rfl) (by exact fun h=>h hde0))<|wZ<|CW.cond rfl (fun h=>?_) (fun h=>?_)
  ·cases h
  have hgd:=look_good hrm hx hg hl0 hde0
  rw[standP_go hx hl0 hde0]
  have ob:∃r,seqS (fun y u=>standP s rm m y (push y u)) (kids x (s.get x.d).1) (look s rm x t).2=r:=⟨_,rfl⟩
  obtain⟨r,hr⟩:=ob
  rw[hr]
  have ob:∃l,decL (s.get x.d).1=l:=⟨_,rfl⟩
  obtain⟨l,hll⟩:=ob
  have hnm:∀e∈l,isName e.name=true:=hll▸decL_name
  have hk:kids x (s.get x.d).1=l.map (kidOf x):=by rw[kids,hll]
  rw[hk] at hr
  rw[hll] at hu hoks hle
  have ob:=hu.form
  obtain⟨ua,uc,rfl⟩:=ob
  refine ck<|cq<|sr<|wm<|wV (run_lenSl u116 rfl)<|wm<|wZ<|cB<|CW.loop (fun z f w'=>∃i t' W' L' D',i≤l.length∧z=l.length - i∧seqS (fun y u=>standP s rm m y (push y u)) ((l.map (kidOf x)).drop i) t'=r∧t'.Good 0∧LdW c8 c10 c11 rm t' (D'++D) W'∧PRep bp (s.gotN t'.g) (D'++D) L'∧Step (List.map (·.1) (W++(L++D))) (Le++((b8,blk 44 (u8s x.d))::(W'++(L'++(D'++D))))) w0 w'∧Holds f [(0,str x.p),(2,.int .i64 (x.dep:Nat)),(3,.pointer (some ⟨c12,0,none⟩)),(4,.pointer (some ⟨c8,0,none⟩)),(5,.pointer (some ⟨c13,0,none⟩)),(6,.pointer (some ⟨c11,0,none⟩)),(38,.slice ua l.length uc),(39,.int .i64 (l.length:Nat)),(40,.int .i64 (i:Nat))]) (m:=l.length) ?_ ?_
  ·exact⟨0,_,W1,L1,Lv,Nat.zero_le _,rfl,hr,hgd,hW1.mono mem_right,hR1.mono mem_right,hs,rfl,rfl,rfl,rfl,rfl,rfl,rfl,rfl,rfl,trivial⟩
  clear hs
  rintro z f w ⟨i,t',W',L',D',hi,rfl,hr,hg',hW',hR',hs,hf⟩
  have hK':LdK c3 c8 c9 c10 c11 c12 c13 bp rm (D'++D):=hK.mono mem_right
  by_cases hlt:i<l.length
  ·have ob:=hu.some1 (by omega)
   obtain⟨bu,cu,more,hu1,hu2,hu3⟩:=ob
   rw[hu1] at hf
   have ob:=hf.chain
   obtain⟨g,rfl⟩:=ob
   rw[hu2] at hs
   replace hs:Step (List.map (·.1) (W++(L++D))) ((bu,blk 115 (rows l++more))::(b8,blk 44 (u8s x.d))::(W'++(L'++(D'++D)))) w0 w:=hs
   have ob:∃e,l[i]=e:=⟨_,rfl⟩
   obtain⟨e,he⟩:=ob
   have hmem:e∈l:=he▸getElem_mem hlt
   have heo:=hoks e hmem
   have hel:(u8s e.dig).length=32:=by rw[u8s,length_map,heo.1]
   have hec:=Ent.cells_len heo
   have hent:At w bu (0+i*34) e.cells:=by
    have h2:=(At.of_blk hs.hd).left.ent hoks hlt
    rw[he] at h2;exact h2
   have hdrop:(l.map (kidOf x)).drop i=kidOf x e::(l.map (kidOf x)).drop (i+1):=by
    rw[drop_eq_getElem_cons (by rw[length_map];exact hlt),getElem_map,he]
   rw[hdrop,seqS] at hr
   have hnl:=nameLe (hnm e hmem)
   have hjl:=joinP_le (p:=x.p) hnl
   refine sr<|wV (run_bT (run_lss rfl rfl) (by omega))<|wZ<|cq<|CW.cond rfl (fun h=>?_) (fun h=>?_)
   ·refine ck<|cq<|cB<|sr<|wV (run_ixSlN u116 ty115 rfl rfl (by omega))<|wV (run_loadN ty115 rfl hec hent)<|WL.alloc ty115 rfl hs (fun b15 w hs=>?_)
    refine WL.storeAll ty115 rfl rfl ((hec)) ((Ent.cells1 _)) hs (by rfl) (fun w hs=>?_)
    refine wZ ?_
    replace hs:Step (List.map (·.1) (W++(L++D))) ((b15,blk 115 e.cells)::(bu,blk 115 (rows l++more))::(b8,blk 44 (u8s x.d))::(W'++(L'++(D'++D)))) w0 w:=hs
    refine sr<|wF 0 u115 rfl ty9 rfl<|wl ty9 rfl (hs.c0 (v:=str e.name) rfl)<|wA<|wZ<|CW.seqM (fun f w=>Step (List.map (·.1) (W++(L++D))) ((b15,blk 115 e.cells)::(bu,blk 115 (rows l++more))::(b8,blk 44 (u8s x.d))::(W'++(L'++(D'++D)))) w0 w∧Holds f [(0,str x.p),(2,.int .i64 (x.dep:Nat)),(3,.pointer (some ⟨c12,0,none⟩)),(4,.pointer (some ⟨c8,0,none⟩)),(5,.pointer (some ⟨c13,0,none⟩)),(6,.pointer (some ⟨c11,0,none⟩)),(15,.pointer (some ⟨b15,0,none⟩)),(16,str (joinP x.p e.name)),(38,.slice (some ⟨bu,0,none⟩) l.length cu),(39,.int .i64 (l.length:Nat)),(40,.int .i64 (i:Nat))]) ?_ ?_
    ·by_cases hp0:x.p=[]
     ·refine sr<|wm<|wV (run_bF (run_strNe rfl rfl) (by exact fun h=>h hp0))<|wZ<|CW.cond rfl (fun h=>?_) (fun h=>?_)
      ·cases h
      refine ck ?_
      exact⟨rfl,hs,rfl,rfl,rfl,rfl,rfl,rfl,rfl,congrArg str (if_pos hp0).symm,rfl,rfl,rfl,trivial⟩
     ·refine sr<|wm<|wV (run_bT (run_strNe rfl rfl) (by exact hp0))<|wZ<|CW.cond rfl (fun h=>?_) (fun h=>?_)
      ·skip
       refine cr<|wm<|wV (run_strAdd rfl rfl ((by simp;omega)))<|wF 0 u115 rfl ty9 rfl<|wl ty9 rfl (hs.c0 (v:=str e.name) rfl)<|wV (run_strAdd rfl rfl ((by simp;omega)))<|wA<|wZ ?_
       exact⟨rfl,hs,rfl,rfl,rfl,rfl,rfl,rfl,rfl,congrArg str (by rw[joinP,if_neg hp0];simp),rfl,rfl,rfl,trivial⟩
      ·cases h
    clear hs hent
    rintro f w ⟨hs,hf⟩
    have ob:=hf.chain
    obtain⟨g,rfl⟩:=ob
    have hpj:(joinP x.p e.name).length≤65*(x.dep+1):=by omega
    have hdgs:∀{X:List (Nat×Obj)}{w:World},Step (List.map (·.1) (W++(L++D))) ((b15,blk 115 e.cells)::X) w0 w→At w b15 (0+2) (u8s e.dig):=fun h=>(At.of_blk h.hd).drop 2
    by_cases hkd:e.kind=2
    ·have hkx:(kidOf x e).dir=true:=by simp[kidOf,hkd]
     have hpu:push (kidOf x e) t' = { t' with l:=t'.l++[⟨joinP x.p e.name,true,[]⟩] }:=push_dir hkx (by simp[kidOf]) t'
     obtain⟨vL,LL,T,rfl,hvL,hT,hTD⟩:=hW'
     have ob:=hvL.form
     obtain⟨la,lc,rfl⟩:=ob
     have hgl':=hg'.l
     have hgn':=hg'.n
     refine cq<|sr<|wF 1 u115 rfl ty3 rfl<|wl ty3 rfl (hs.c0 (v:=.int .i64 e.kind) rfl)<|wV (run_bT (run_eql rfl rfl) (by exact hkd))<|wZ<|CW.cond rfl (fun h=>?_) (fun h=>?_)
     ·replace hs:=Step.ldP (L1:=[_,_,_,_,_,_]) hs (perm6 _ _ _ _ _ _)
      replace hs:Step (List.map (·.1) (W++(L++D))) ([(c8,blk 65 [.slice la t'.l.length lc]),(b15,blk 115 e.cells),(bu,blk 115 (rows l++more)),(b8,blk 44 (u8s x.d)),(c10,blk 3 [.int .i64 (rm.n - t'.n)]),(c11,blk 3 [.int .i64 (rm.b - t'.b)])]++(LL++(L'++(D'++D)))) w0 w:=hs
      refine sr<|wl ty65 rfl (hs.c0 (v:=.slice la t'.l.length lc) rfl)<|wm<|wV (run_build rfl (bld_wd _ _))<|WL.buildSlice (cs:=[str (joinP x.p e.name),.bool true,.slice none 0 0]) u65 ty155 rfl (by decide) rfl (filled1 rfl rfl) rfl hs (fun b59 w hs=>?_)
      have hsl59:Sl w 3 (.slice (some ⟨b59,0,none⟩) 1 1) 1 [str (joinP x.p e.name),.bool true,.slice none 0 0]:=.own1 hs rfl
      replace hs:=Step.ldI (P:=[_,_,_,_,_,_]) hs
      refine WL.append u65 u65 ty155 rfl (by decide) rfl rfl (hvL) (hs) (hsl59) (Cells1.of_all rfl) (by omega) rfl (fun v60 Lv60 w hv60 hs=>?_)
      replace hs:=Step.ldO (P:=[_,_,_,_,_,_]) hs
      refine ws1 ty65 rfl rfl (hv60.one) hs (fun w hs=>?_)
      refine wZ ?_
      replace hs:=Step.ldP (L1:=[_,_,_,_,_,_]) hs (perm6b _ _ _ _ _ _)
      replace hs:Step (List.map (·.1) (W++(L++D))) ((b15,blk 115 e.cells)::(bu,blk 115 (rows l++more))::(b8,blk 44 (u8s x.d))::(((c8,blk 65 [v60])::(c10,blk 3 [.int .i64 (rm.n - t'.n)])::(c11,blk 3 [.int .i64 (rm.b - t'.b)])::Lv60)++(L'++(D'++D)))) w0 w:=hs
      have hW2:LdW c8 c10 c11 rm (push (kidOf x e) t') (D'++D) ((c8,blk 65 [v60])::(c10,blk 3 [.int .i64 (rm.n - t'.n)])::(c11,blk 3 [.int .i64 (rm.b - t'.b)])::Lv60):=by
       refine⟨v60,Lv60,T++[(⟨joinP x.p e.name,true,[]⟩,.slice none 0 0)],by rw[hpu],?_,?_,?_⟩
       ·have e1:(push (kidOf x e) t').l.length=t'.l.length+1:=by rw[hpu];show(t'.l++[_]).length=_;simp
        rw[e1,rowsW_snoc];exact hv60
       ·rw[hpu,map_append,hT];rfl
       ·intro u hu
        rcases mem_append.1 hu with hu | hu
        ·exact hTD u hu
        ·obtain rfl:=mem_singleton.1 hu
         exact⟨[],OwnSl.nil _ _,fun p hp=>by cases hp⟩
      refine cq<|sr<|wl ty151 rfl ((Step.inD (A:=[_,_,_]) (W:=_::_::_::Lv60) hs hK'.m13 rfl))<|wm<|wF 2 u115 rfl ty44 rfl<|wV (run_loadN ty44 rfl hel (hdgs hs))<|wm<|wV (run_add (c:=((x.dep+1:Nat):Int)) rfl rfl (by omega) (by omega))<|wE rfl (run_callV (cap:=[.pointer (some ⟨c12,0,none⟩),.pointer (some ⟨c8,0,none⟩),.pointer (some ⟨c13,0,none⟩),.pointer (some ⟨c11,0,none⟩)]) en77 rfl rfl) (ih (x:=kidOf x e) hkx (show m+(x.dep+1)=34 by omega) heo.1 hpj ((push_good _ hg').mono (by unfold kOf;split <;> omega)) hK' hW2 (by rw[push_g];exact hR') (Lives.mk hs.tail.tail.tail)) ?_
      rintro e w ⟨W2,L2,D2,rfl,hW3,hR3,hq⟩
      refine⟨_,rfl,?_⟩
      replace hs:=Step.wput (A:=[_,_,_]) (W:=_::_::_::Lv60) hs hq
      refine wA<|wZ ?_
      by_cases her:(standP s rm m (kidOf x e) (push (kidOf x e) t')).1≠0
      ·rw[if_pos her] at hr
       obtain rfl:=hr
       refine sr<|wm<|wV (run_bT (run_neq rfl rfl) (by exact her))<|wZ<|CW.cond rfl (fun h=>?_) (fun h=>?_)
       ·refine sr<|wm<|wA<|wZ<|CW.ret ?_
        refine fin_ret1 rfl ?_
        exact⟨W2,L2,D2++D',rfl,(fun h=>absurd h her),by rw[append_assoc];exact hR3,Step.narrow2 hw (by rw[append_assoc];exact hs.tail.tail.tail)⟩
       ·cases h
      ·rw[if_neg her] at hr
       have her0:(standP s rm m (kidOf x e) (push (kidOf x e) t')).1=0:=by simpa using her
       refine sr<|wm<|wV (run_bF (run_neq rfl rfl) (by exact her))<|wZ<|CW.cond rfl (fun h=>?_) (fun h=>?_)
       ·cases h
       refine ck<|CW.exit<|cr<|wV (run_add (c:=((i+1:Nat):Int)) rfl rfl (by omega) (by omega))<|wm<|wZ<|(show _∧_ from⟨rfl,_,?_,i+1,_,W2,L2,D2++D',hlt,rfl,hr,standP_good hrm m (push_good _ hg') her0,by rw[append_assoc];exact hW3 her0,by rw[append_assoc];exact hR3,by rw[hu2,append_assoc];exact hs.tail,rfl,rfl,rfl,rfl,rfl,rfl,hu1.symm,rfl,rfl,trivial⟩)
       omega
     ·cases h
    ·have hkx:(kidOf x e).dir=false:=by simp[kidOf,hkd]
     have hsf:standP s rm m (kidOf x e) (push (kidOf x e) t')=((visit s rm (kidOf x e) t').1,(visit s rm (kidOf x e) t').2.2):=by
      rw[push_file hkx]
      exact standP_file hrd.2 hkx (show m+(x.dep+1)=34 by omega) t'
     have hv:=visit_look s rm (kidOf x e) t'
     rw[if_neg (show ¬(kidOf x e).dir=true by simp[hkx])] at hv
     have hb1:=hg'.b
     have hl1:=hg'.l
     have hn1:=hg'.n
     have hrb:=hrm.b
     have hgl2:=get_len ok e.dig
     have hlb:(look s rm (kidOf x e) t').2.b=t'.b:=by
      unfold look;split
      ·rfl
      ·split <;> rfl
     have hll3:(look s rm (kidOf x e) t').2.l=t'.l:=by
      unfold look;split
      ·rfl
      ·split <;> rfl
     refine cq<|sr<|wF 1 u115 rfl ty3 rfl<|wl ty3 rfl (hs.c0 (v:=.int .i64 e.kind) rfl)<|wV (run_bF (run_eql rfl rfl) (by exact hkd))<|wZ<|CW.cond rfl (fun h=>?_) (fun h=>?_)
     ·cases h
     refine ck<|sr<|wl ty150 rfl ((Step.inD (A:=[_,_,_]) hs hK'.m12 rfl))<|wF 2 u115 rfl ty44 rfl<|wV (run_loadN ty44 rfl hel (hdgs hs))<|wm<|wV (run_add (c:=((x.dep+1:Nat):Int)) rfl rfl (by omega) (by omega))<|wE rfl (run_callV (cap:=[.pointer (some ⟨c9,0,none⟩),.pointer (some ⟨c10,0,none⟩),.pointer (some ⟨c3,0,none⟩)]) en75 rfl rfl) (ldget_spec (x:=kidOf x e) hK' hW' hR' ok hrm hfew hN (hg'.mono (by omega)) heo.1 (show x.dep+1≤34 by omega) (Lives.mk hs.tail.tail.tail)) ?_
     rintro e w ⟨v2,y,Lv2,W2,L2,rfl,hvy2,hy2,hW2,hP2,hq⟩
     refine⟨_,rfl,?_⟩
     replace hs:=Step.wput (A:=[_,_,_]) hs hq
     refine wm<|wx rfl rfl<|wx rfl rfl<|wA<|wA<|wZ ?_
     rw[hsf] at hr
     have ob:∃er,(look s rm (kidOf x e) t').1=er:=⟨_,rfl⟩
     obtain⟨er,her⟩:=ob
     have ob:∃u2,(look s rm (kidOf x e) t').2=u2:=⟨_,rfl⟩
     obtain⟨u2,hu2e⟩:=ob
     rw[her,hu2e] at hv
     rw[her] at hy2 hW2
     rw[hu2e] at hlb hll3 hW2 hP2
     by_cases c1:er≠0
     ·rw[if_pos c1] at hv
      rw[hv] at hr
      simp only at hr
      rw[if_pos c1] at hr
      obtain rfl:=hr
      refine cq<|sr<|wm<|wV (run_bT (run_neq rfl rfl) (by rw[her];exact c1))<|wZ<|CW.cond rfl (fun h=>?_) (fun h=>?_)
      ·refine sr<|wm<|wA<|wZ<|CW.ret ?_
       refine fin_ret1 rfl ?_
       exact⟨W2,L2,Lv2++D',congrArg (fun z=>Ending.returned (.int .i64 z)) her,(fun h=>absurd h c1),by rw[append_assoc];exact hP2.mono mem_right,Step.narrow2 hw (by rw[append_assoc];exact hs.tail.tail.tail)⟩
      ·cases h
     have h0:er=0:=by simpa using c1
     subst h0
     rw[if_neg (by simp)] at hv
     have hW2:=hW2 rfl
     obtain rfl:=hy2 rfl
     have ob:=hvy2.form
     obtain⟨va2,vc2,rfl⟩:=ob
     obtain⟨vL,LL,T,rfl,hvL,hT,hTD⟩:=hW2
     have hHl2:Held (Lv2++(D'++D)) (.slice va2 (s.get (kidOf x e).d).1.length vc2) (s.get (kidOf x e).d).1:=⟨Lv2,hvy2,fun p hp=>mem_append_left _ hp⟩
     have hgl3:(s.get (kidOf x e).d).1.length≤67108864:=Nat.le_trans hgl2 (by decide)
     have ob:=hvL.form
     obtain⟨la,lc,rfl⟩:=ob
     have hll4:u2.l.length≤65537:=by rw[hll3];omega
     refine cq<|sr<|wm<|wV (run_bF (run_neq rfl rfl) (by rw[her];exact fun h=>h rfl))<|wZ<|CW.cond rfl (fun h=>?_) (fun h=>?_)
     ·cases h
     replace hs:=Step.ldP (L1:=[_,_,_,_,_,_]) hs (perm6c _ _ _ _ _ _)
     replace hs:Step (List.map (·.1) (W++(L++D))) ([(c11,blk 3 [.int .i64 (rm.b - u2.b)]),(c8,blk 65 [.slice la u2.l.length lc]),(b15,blk 115 e.cells),(bu,blk 115 (rows l++more)),(b8,blk 44 (u8s x.d)),(c10,blk 3 [.int .i64 (rm.n - u2.n)])]++(LL++(L2++(Lv2++(D'++D))))) w0 w:=hs
     by_cases c2:rm.b<(u2.b:Int)+(s.get (kidOf x e).d).1.length
     ·rw[if_pos c2] at hv
      rw[hv] at hr
      simp only at hr
      rw[if_pos (by decide)] at hr
      obtain rfl:=hr
      refine ck<|cq<|sr<|wm<|wV (run_lenSl u76 rfl)<|wl ty3 rfl (hs.c0 (v:=.int .i64 (rm.b - u2.b)) rfl)<|wV (run_bT (run_gtr rfl rfl) (by omega))<|wZ<|CW.cond rfl (fun h=>?_) (fun h=>?_)
      ·refine sr<|wA<|wZ<|CW.ret ?_
       refine fin_ret1 rfl ?_
       refine⟨(c8,blk 65 [.slice la u2.l.length lc])::(c10,blk 3 [.int .i64 (rm.n - u2.n)])::(c11,blk 3 [.int .i64 (rm.b - u2.b)])::LL,L2,Lv2++D',rfl,(fun h=>by cases h),by rw[append_assoc];exact hP2.mono mem_right,Step.narrow2 hw ?_⟩
       rw[append_assoc]
       exact(Step.ldP (L1:=[_,_,_,_,_,_]) hs (perm6d _ _ _ _ _ _)).tail.tail.tail
      ·cases h
     rw[if_neg c2] at hv
     rw[hv] at hr
     simp only at hr
     rw[if_neg (by simp)] at hr
     refine ck<|cq<|sr<|wm<|wV (run_lenSl u76 rfl)<|wl ty3 rfl (hs.c0 (v:=.int .i64 (rm.b - u2.b)) rfl)<|wV (run_bF (run_gtr rfl rfl) (by omega))<|wZ<|CW.cond rfl (fun h=>?_) (fun h=>?_)
     ·cases h
     refine ck<|sr<|wl ty3 rfl (hs.c0 (v:=.int .i64 (rm.b - u2.b)) rfl)<|wm<|wV (run_lenSl u76 rfl)<|wV (run_sub (c:=(rm.b - ((u2.b+(s.get (kidOf x e).d).1.length:Nat):Int))) rfl rfl (by omega) (by omega))<|ws1 ty3 rfl rfl (rfl) hs (fun w hs=>?_)
     refine wZ ?_
     replace hs:Step (List.map (·.1) (W++(L++D))) ([(c11,blk 3 [.int .i64 (rm.b - ((u2.b+(s.get (kidOf x e).d).1.length:Nat):Int))]),(c8,blk 65 [.slice la u2.l.length lc]),(b15,blk 115 e.cells),(bu,blk 115 (rows l++more)),(b8,blk 44 (u8s x.d)),(c10,blk 3 [.int .i64 (rm.n - u2.n)])]++(LL++(L2++(Lv2++(D'++D))))) w0 w:=hs
     refine cr<|wl ty65 rfl (hs.c1 (v:=.slice la u2.l.length lc) rfl)<|wm<|wm<|wV (run_build rfl (bld_wi _ _ _ _ _))<|WL.buildSlice (cs:=[str (joinP x.p e.name),.bool false,.slice va2 (s.get (kidOf x e).d).1.length vc2]) u65 ty155 rfl (by decide) rfl (filled1 rfl rfl) rfl hs (fun b95 w hs=>?_)
     have hsl95:Sl w 3 (.slice (some ⟨b95,0,none⟩) 1 1) 1 [str (joinP x.p e.name),.bool false,.slice va2 (s.get (kidOf x e).d).1.length vc2]:=.own1 hs rfl
     replace hs:=Step.ldI (P:=[_,_,_,_,_,_]) hs
     refine WL.append u65 u65 ty155 rfl (by decide) rfl rfl (hvL) (hs) (hsl95) (Cells1.of_all rfl) (by omega) rfl (fun v96 Lv96 w hv96 hs=>?_)
     replace hs:=Step.ldO (P:=[_,_,_,_,_,_]) hs
     refine ws1 ty65 rfl rfl (hv96.one) (hs.swap) (fun w hs=>?_)
     refine wZ ?_
     replace hs:Step (List.map (·.1) (W++(L++D))) ([(c11,blk 3 [.int .i64 (rm.b - ((u2.b+(s.get (kidOf x e).d).1.length:Nat):Int))]),(c8,blk 65 [v96]),(b15,blk 115 e.cells),(bu,blk 115 (rows l++more)),(b8,blk 44 (u8s x.d)),(c10,blk 3 [.int .i64 (rm.n - u2.n)])]++(Lv96++(L2++(Lv2++(D'++D))))) w0 w:=hs.swap
     replace hs:=Step.ldP (L1:=[_,_,_,_,_,_]) hs (perm6d _ _ _ _ _ _)
     replace hs:Step (List.map (·.1) (W++(L++D))) ((b15,blk 115 e.cells)::(bu,blk 115 (rows l++more))::(b8,blk 44 (u8s x.d))::(((c8,blk 65 [v96])::(c10,blk 3 [.int .i64 (rm.n - u2.n)])::(c11,blk 3 [.int .i64 (rm.b - ((u2.b+(s.get (kidOf x e).d).1.length:Nat):Int))])::Lv96)++(L2++(Lv2++(D'++D))))) w0 w:=hs
     have hv':standP s rm m (kidOf x e) (push (kidOf x e) t')=(0,(u2.byte (s.get (kidOf x e).d).1.length).item ⟨(kidOf x e).p,false,(s.get (kidOf x e).d).1⟩):=by rw[hsf,hv]
     refine cr<|wV (run_add (c:=((i+1:Nat):Int)) rfl rfl (by omega) (by omega))<|wm<|wZ<|(show _∧_ from⟨rfl,_,?_,i+1,_,(c8,blk 65 [v96])::(c10,blk 3 [.int .i64 (rm.n - u2.n)])::(c11,blk 3 [.int .i64 (rm.b - ((u2.b+(s.get (kidOf x e).d).1.length:Nat):Int))])::Lv96,L2,Lv2++D',hlt,rfl,hr,?_,?_,?_,?_,rfl,rfl,rfl,rfl,rfl,rfl,hu1.symm,rfl,rfl,trivial⟩)
     ·omega
     ·have:=standP_good (s:=s) hrm m (x:=kidOf x e) (t:=push (kidOf x e) t') (push_good _ hg') (by rw[hv'])
      rw[hv'] at this
      exact this
     ·refine⟨v96,Lv96,T++[(⟨joinP x.p e.name,false,(s.get (kidOf x e).d).1⟩,.slice va2 (s.get (kidOf x e).d).1.length vc2)],rfl,?_,?_,?_⟩
      ·show OwnSl _ _ _ (u2.l++[_]).length _ _
       rw[length_append,rowsW_snoc];exact hv96
      ·show _=u2.l++[_]
       rw[map_append,hT];rfl
      ·intro u hu
       rw[append_assoc]
       rcases mem_append.1 hu with hu | hu
       ·exact(hTD u hu).mono mem_right
       ·obtain rfl:=mem_singleton.1 hu
        exact hHl2
     ·rw[append_assoc];exact hP2.mono mem_right
     ·rw[hu2,append_assoc];exact hs.tail
   ·cases h
  ·have ob:=hf.chain
   obtain⟨g,rfl⟩:=ob
   obtain rfl:i=l.length:=by omega
   rw[drop_of_length_le (by rw[length_map];exact Nat.le_refl _)] at hr
   obtain rfl:=hr
   refine sr<|wV (run_bF (run_lss rfl rfl) (by omega))<|wZ<|cq<|CW.cond rfl (fun h=>?_) (fun h=>?_)
   ·cases h
   refine CW.exit<|sr<|wA<|wZ<|CW.ret ?_
   refine fin_ret1 rfl ?_
   exact⟨W',L',D',rfl,fun _=>hW',hR',Step.narrow2 hw (Step.dropL hs).tail⟩
end
theorem Step.thd{S:List Nat}{a b c:Nat×Obj}{X:List (Nat×Obj)}{w w':World} (h:Step S (a::b::c::X) w w'):Step S (c::a::b::X) w w':=h.perm (by classical exact perm_iff_count.2 fun x=>by simp only[count_cons];omega)
section
variable{bp:Nat}{s:AS}{D L:List (Nat×Obj)}{d:List UInt8}{w0:World}{rn rd rb:Int}{N:Nat}
set_option maxHeartbeats 8000000 in
theorem load_spec (hR:PRep bp s D L) (ok:s.Ok) (hfew:s.Few N) (hN:N<1000000000000) (hd:d.length=32) (hrm:(rmOf rn rd rb).Ok) (hw:Lives (L++D) w0) :
  CP 27 #[.pointer (some ⟨bp,0,none⟩),.agg (u8s d).toArray,.agg #[.int .i64 rn,.int .i64 rd,.int .i64 rb]] w0 fun e w'=>∃v T Lv L' D',e=.returned (.tuple #[v,.int .i64 (runs s (rmOf rn rd rb) [rootS d] ws0).1])∧
   PRep bp (s.gotN (runs s (rmOf rn rd rb) [rootS d] ws0).2.g) (D'++D) L'∧OwnSl 155 3 v T.length (rowsW T) Lv∧((runs s (rmOf rn rd rb) [rootS d] ws0).1=0→T.map (·.1)=(runs s (rmOf rn rd rb) [rootS d] ws0).2.l)∧((runs s (rmOf rn rd rb) [rootS d] ws0).1≠0→T=[])∧(∀u∈T,Held (D'++D) u.2 u.1.x)∧Step (L.map (·.1)) (L'++(Lv++D')) w0 w':=by
 rw[runs_root]
 have hdl:(u8s d).length=32:=by rw[u8s,length_map,hd]
 have hs:Step (List.map (·.1) (L++D)) (L++D) w0 w0:=hw
 have ob:∃rm,rmOf rn rd rb=rm:=⟨_,rfl⟩
 obtain⟨rm,hrme⟩:=ob
 have e1:minZ rd 32=rm.d:=by rw[←hrme];rfl
 have e2:minZ rn 65536=rm.n:=by rw[←hrme];rfl
 have e3:minZ rb 67108864=rm.b:=by rw[←hrme];rfl
 rw[hrme] at hrm⊢
 refine calls (n:=33) Tryz.func27 rfl rfl rfl ?_
 refine sr<|WL.box rfl (rfl) rfl hs (fun b3 w hs=>?_)
 refine WL.box (cs:=u8s d) rfl rfl rfl hs (fun b4 w hs=>?_)
 refine WL.box (cs:=[.int .i64 rn,.int .i64 rd,.int .i64 rb]) rfl rfl rfl hs (fun b5 w hs=>?_)
 refine wA<|wA<|wZ<|sr<|WL.alloc ty65 rfl hs (fun b8 w hs=>?_)
 refine wZ ?_
 replace hs:=(show Step (List.map (·.1) (L++D)) ((b8,blk 65 [.slice none 0 0])::(b5,blk 30 [.int .i64 rn,.int .i64 rd,.int .i64 rb])::(b4,blk 44 (u8s d))::(b3,blk 39 [.pointer (some ⟨bp,0,none⟩)])::(L++D)) w0 w from hs)
 refine CW.seqM (fun f w=>∃b9 b10 b11,Step (List.map (·.1) (L++D)) ((b9,blk 3 [.int .i64 rm.d])::(b10,blk 3 [.int .i64 rm.n])::(b11,blk 3 [.int .i64 rm.b])::(b8,blk 65 [.slice none 0 0])::(b5,blk 30 [.int .i64 rn,.int .i64 rd,.int .i64 rb])::(b4,blk 44 (u8s d))::(b3,blk 39 [.pointer (some ⟨bp,0,none⟩)])::(L++D)) w0 w∧Holds f [(3,.pointer (some ⟨b3,0,none⟩)),(4,.pointer (some ⟨b4,0,none⟩)),(8,.pointer (some ⟨b8,0,none⟩)),(9,.pointer (some ⟨b9,0,none⟩)),(10,.pointer (some ⟨b10,0,none⟩)),(11,.pointer (some ⟨b11,0,none⟩))]) ?_ ?_
 ·skip
  refine CW.any (A:=fun w=>w.heap[b5]?=some (blk 30 [.int .i64 rn,.int .i64 rd,.int .i64 rb])) (C:=fun w=>w.heap[b5]?=some (blk 30 [.int .i64 rn,.int .i64 rd,.int .i64 rb])) 1000000 15 mixedP rfl ?_
  replace hs:=hs.drew
  refine aV 0 rfl (fun w hs=>run_field (o':=1) u30 rfl ty3 rfl rfl rfl)<|aV 1 rfl (fun w hs=>run_load1 ty3 rfl ((At.of_blk hs).cell (j:=1) rfl))<|aV 2 rfl (fun w hs=>run_minZ rfl rfl)<|aV 3 rfl (fun w hs=>run_field (o':=0) u30 rfl ty3 rfl rfl rfl)<|aV 4 rfl (fun w hs=>run_load1 ty3 rfl ((At.of_blk hs).cell (j:=0) rfl))<|aV 5 rfl (fun w hs=>run_minZ rfl rfl)<|aV 6 rfl (fun w hs=>run_field (o':=2) u30 rfl ty3 rfl rfl rfl)<|aV 7 rfl (fun w hs=>run_load1 ty3 rfl ((At.of_blk hs).cell (j:=2) rfl))<|aV 8 rfl (fun w hs=>run_minZ rfl rfl)<|AL.three 9 10 11 (by kernel_rfl) rfl rfl rfl (hs.has (b5,blk 30 [.int .i64 rn,.int .i64 rd,.int .i64 rb]) (by simp)) (hs.has (b5,blk 30 [.int .i64 rn,.int .i64 rd,.int .i64 rb]) (by simp)) ?_ ?_ ?_
  ·refine WL.alloc ty3 rfl hs (fun b9 w hs=>?_)
   refine wZ<|⟨rfl,?_⟩
   refine AL.two 10 11 (by kernel_rfl) rfl rfl (hs.has (b5,blk 30 [.int .i64 rn,.int .i64 rd,.int .i64 rb]) (by simp)) (hs.has (b5,blk 30 [.int .i64 rn,.int .i64 rd,.int .i64 rb]) (by simp)) ?_ ?_
   ·refine WL.alloc ty3 rfl hs (fun b10 w hs=>?_)
    refine wZ<|⟨rfl,?_⟩
    refine AL.one 11 (by kernel_rfl) rfl (hs.has (b5,blk 30 [.int .i64 rn,.int .i64 rd,.int .i64 rb]) (by simp)) (hs.has (b5,blk 30 [.int .i64 rn,.int .i64 rd,.int .i64 rb]) (by simp)) ?_
    refine WL.alloc ty3 rfl hs (fun b11 w hs=>?_)
    refine wZ<|⟨rfl,?_⟩
    refine AL.one 12 (by kernel_rfl) rfl (hs.has (b5,blk 30 [.int .i64 rn,.int .i64 rd,.int .i64 rb]) (by simp)) (hs.has (b5,blk 30 [.int .i64 rn,.int .i64 rd,.int .i64 rb]) (by simp)) ?_
    refine ws1 ty3 rfl rfl (rfl) ((by exact Step.thd hs)) (fun w hs=>?_)
    refine wZ<|⟨rfl,?_⟩
    refine AL.one 13 (by kernel_rfl) rfl (hs.has (b5,blk 30 [.int .i64 rn,.int .i64 rd,.int .i64 rb]) (by simp)) (hs.has (b5,blk 30 [.int .i64 rn,.int .i64 rd,.int .i64 rb]) (by simp)) ?_
    refine ws1 ty3 rfl rfl (rfl) ((by exact Step.thd hs)) (fun w hs=>?_)
    refine wZ<|⟨rfl,?_⟩
    refine AL.one 14 (by kernel_rfl) rfl (hs.has (b5,blk 30 [.int .i64 rn,.int .i64 rd,.int .i64 rb]) (by simp)) (hs.has (b5,blk 30 [.int .i64 rn,.int .i64 rd,.int .i64 rb]) (by simp)) ?_
    refine ws1 ty3 rfl rfl (rfl) ((by exact Step.thd hs)) (fun w hs=>?_)
    refine wZ<|⟨rfl,?_⟩
    refine AL.end (by kernel_rfl) (hs.has (b5,blk 30 [.int .i64 rn,.int .i64 rd,.int .i64 rb]) (by simp)) (hs.has (b5,blk 30 [.int .i64 rn,.int .i64 rd,.int .i64 rb]) (by simp)) ?_
    replace hs:=(show Step (List.map (·.1) (L++D)) ((b11,blk 3 [.int .i64 (minZ rb 67108864)])::(b10,blk 3 [.int .i64 (minZ rn 65536)])::(b9,blk 3 [.int .i64 (minZ rd 32)])::(b8,blk 65 [.slice none 0 0])::(b5,blk 30 [.int .i64 rn,.int .i64 rd,.int .i64 rb])::(b4,blk 44 (u8s d))::(b3,blk 39 [.pointer (some ⟨bp,0,none⟩)])::(L++D)) w0 w from hs)
    rw[e1,e2,e3] at hs
    exact⟨rfl,b9,b10,b11,hs.perm (by classical exact perm_iff_count.2 fun x=>by simp only[count_append,count_cons,count_nil];omega),rfl,rfl,rfl,rfl,rfl,rfl,trivial⟩
   ·refine WL.alloc ty3 rfl hs (fun b11 w hs=>?_)
    refine wZ<|⟨rfl,?_⟩
    refine AL.one 10 (by kernel_rfl) rfl (hs.has (b5,blk 30 [.int .i64 rn,.int .i64 rd,.int .i64 rb]) (by simp)) (hs.has (b5,blk 30 [.int .i64 rn,.int .i64 rd,.int .i64 rb]) (by simp)) ?_
    refine WL.alloc ty3 rfl hs (fun b10 w hs=>?_)
    refine wZ<|⟨rfl,?_⟩
    refine AL.one 12 (by kernel_rfl) rfl (hs.has (b5,blk 30 [.int .i64 rn,.int .i64 rd,.int .i64 rb]) (by simp)) (hs.has (b5,blk 30 [.int .i64 rn,.int .i64 rd,.int .i64 rb]) (by simp)) ?_
    refine ws1 ty3 rfl rfl (rfl) ((by exact Step.thd hs)) (fun w hs=>?_)
    refine wZ<|⟨rfl,?_⟩
    refine AL.one 13 (by kernel_rfl) rfl (hs.has (b5,blk 30 [.int .i64 rn,.int .i64 rd,.int .i64 rb]) (by simp)) (hs.has (b5,blk 30 [.int .i64 rn,.int .i64 rd,.int .i64 rb]) (by simp)) ?_
    refine ws1 ty3 rfl rfl (rfl) ((by exact hs.swap)) (fun w hs=>?_)
    refine wZ<|⟨rfl,?_⟩
    refine AL.one 14 (by kernel_rfl) rfl (hs.has (b5,blk 30 [.int .i64 rn,.int .i64 rd,.int .i64 rb]) (by simp)) (hs.has (b5,blk 30 [.int .i64 rn,.int .i64 rd,.int .i64 rb]) (by simp)) ?_
    refine ws1 ty3 rfl rfl (rfl) ((by exact Step.thd hs)) (fun w hs=>?_)
    refine wZ<|⟨rfl,?_⟩
    refine AL.end (by kernel_rfl) (hs.has (b5,blk 30 [.int .i64 rn,.int .i64 rd,.int .i64 rb]) (by simp)) (hs.has (b5,blk 30 [.int .i64 rn,.int .i64 rd,.int .i64 rb]) (by simp)) ?_
    replace hs:=(show Step (List.map (·.1) (L++D)) ((b11,blk 3 [.int .i64 (minZ rb 67108864)])::(b10,blk 3 [.int .i64 (minZ rn 65536)])::(b9,blk 3 [.int .i64 (minZ rd 32)])::(b8,blk 65 [.slice none 0 0])::(b5,blk 30 [.int .i64 rn,.int .i64 rd,.int .i64 rb])::(b4,blk 44 (u8s d))::(b3,blk 39 [.pointer (some ⟨bp,0,none⟩)])::(L++D)) w0 w from hs)
    rw[e1,e2,e3] at hs
    exact⟨rfl,b9,b10,b11,hs.perm (by classical exact perm_iff_count.2 fun x=>by simp only[count_append,count_cons,count_nil];omega),rfl,rfl,rfl,rfl,rfl,rfl,trivial⟩
  ·refine WL.alloc ty3 rfl hs (fun b10 w hs=>?_)
   refine wZ<|⟨rfl,?_⟩
   refine AL.two 9 11 (by kernel_rfl) rfl rfl (hs.has (b5,blk 30 [.int .i64 rn,.int .i64 rd,.int .i64 rb]) (by simp)) (hs.has (b5,blk 30 [.int .i64 rn,.int .i64 rd,.int .i64 rb]) (by simp)) ?_ ?_
   ·refine WL.alloc ty3 rfl hs (fun b9 w hs=>?_)
    refine wZ<|⟨rfl,?_⟩
    refine AL.one 11 (by kernel_rfl) rfl (hs.has (b5,blk 30 [.int .i64 rn,.int .i64 rd,.int .i64 rb]) (by simp)) (hs.has (b5,blk 30 [.int .i64 rn,.int .i64 rd,.int .i64 rb]) (by simp)) ?_
    refine WL.alloc ty3 rfl hs (fun b11 w hs=>?_)
    refine wZ<|⟨rfl,?_⟩
    refine AL.one 12 (by kernel_rfl) rfl (hs.has (b5,blk 30 [.int .i64 rn,.int .i64 rd,.int .i64 rb]) (by simp)) (hs.has (b5,blk 30 [.int .i64 rn,.int .i64 rd,.int .i64 rb]) (by simp)) ?_
    refine ws1 ty3 rfl rfl (rfl) ((by exact hs.swap)) (fun w hs=>?_)
    refine wZ<|⟨rfl,?_⟩
    refine AL.one 13 (by kernel_rfl) rfl (hs.has (b5,blk 30 [.int .i64 rn,.int .i64 rd,.int .i64 rb]) (by simp)) (hs.has (b5,blk 30 [.int .i64 rn,.int .i64 rd,.int .i64 rb]) (by simp)) ?_
    refine ws1 ty3 rfl rfl (rfl) ((by exact Step.thd hs)) (fun w hs=>?_)
    refine wZ<|⟨rfl,?_⟩
    refine AL.one 14 (by kernel_rfl) rfl (hs.has (b5,blk 30 [.int .i64 rn,.int .i64 rd,.int .i64 rb]) (by simp)) (hs.has (b5,blk 30 [.int .i64 rn,.int .i64 rd,.int .i64 rb]) (by simp)) ?_
    refine ws1 ty3 rfl rfl (rfl) ((by exact Step.thd hs)) (fun w hs=>?_)
    refine wZ<|⟨rfl,?_⟩
    refine AL.end (by kernel_rfl) (hs.has (b5,blk 30 [.int .i64 rn,.int .i64 rd,.int .i64 rb]) (by simp)) (hs.has (b5,blk 30 [.int .i64 rn,.int .i64 rd,.int .i64 rb]) (by simp)) ?_
    replace hs:=(show Step (List.map (·.1) (L++D)) ((b11,blk 3 [.int .i64 (minZ rb 67108864)])::(b10,blk 3 [.int .i64 (minZ rn 65536)])::(b9,blk 3 [.int .i64 (minZ rd 32)])::(b8,blk 65 [.slice none 0 0])::(b5,blk 30 [.int .i64 rn,.int .i64 rd,.int .i64 rb])::(b4,blk 44 (u8s d))::(b3,blk 39 [.pointer (some ⟨bp,0,none⟩)])::(L++D)) w0 w from hs)
    rw[e1,e2,e3] at hs
    exact⟨rfl,b9,b10,b11,hs.perm (by classical exact perm_iff_count.2 fun x=>by simp only[count_append,count_cons,count_nil];omega),rfl,rfl,rfl,rfl,rfl,rfl,trivial⟩
   ·refine WL.alloc ty3 rfl hs (fun b11 w hs=>?_)
    refine wZ<|⟨rfl,?_⟩
    refine AL.one 9 (by kernel_rfl) rfl (hs.has (b5,blk 30 [.int .i64 rn,.int .i64 rd,.int .i64 rb]) (by simp)) (hs.has (b5,blk 30 [.int .i64 rn,.int .i64 rd,.int .i64 rb]) (by simp)) ?_
    refine WL.alloc ty3 rfl hs (fun b9 w hs=>?_)
    refine wZ<|⟨rfl,?_⟩
    refine AL.one 12 (by kernel_rfl) rfl (hs.has (b5,blk 30 [.int .i64 rn,.int .i64 rd,.int .i64 rb]) (by simp)) (hs.has (b5,blk 30 [.int .i64 rn,.int .i64 rd,.int .i64 rb]) (by simp)) ?_
    refine ws1 ty3 rfl rfl (rfl) ((by exact hs)) (fun w hs=>?_)
    refine wZ<|⟨rfl,?_⟩
    refine AL.one 13 (by kernel_rfl) rfl (hs.has (b5,blk 30 [.int .i64 rn,.int .i64 rd,.int .i64 rb]) (by simp)) (hs.has (b5,blk 30 [.int .i64 rn,.int .i64 rd,.int .i64 rb]) (by simp)) ?_
    refine ws1 ty3 rfl rfl (rfl) ((by exact Step.thd hs)) (fun w hs=>?_)
    refine wZ<|⟨rfl,?_⟩
    refine AL.one 14 (by kernel_rfl) rfl (hs.has (b5,blk 30 [.int .i64 rn,.int .i64 rd,.int .i64 rb]) (by simp)) (hs.has (b5,blk 30 [.int .i64 rn,.int .i64 rd,.int .i64 rb]) (by simp)) ?_
    refine ws1 ty3 rfl rfl (rfl) ((by exact Step.thd hs)) (fun w hs=>?_)
    refine wZ<|⟨rfl,?_⟩
    refine AL.end (by kernel_rfl) (hs.has (b5,blk 30 [.int .i64 rn,.int .i64 rd,.int .i64 rb]) (by simp)) (hs.has (b5,blk 30 [.int .i64 rn,.int .i64 rd,.int .i64 rb]) (by simp)) ?_
    replace hs:=(show Step (List.map (·.1) (L++D)) ((b11,blk 3 [.int .i64 (minZ rb 67108864)])::(b10,blk 3 [.int .i64 (minZ rn 65536)])::(b9,blk 3 [.int .i64 (minZ rd 32)])::(b8,blk 65 [.slice none 0 0])::(b5,blk 30 [.int .i64 rn,.int .i64 rd,.int .i64 rb])::(b4,blk 44 (u8s d))::(b3,blk 39 [.pointer (some ⟨bp,0,none⟩)])::(L++D)) w0 w from hs)
    rw[e1,e2,e3] at hs
    exact⟨rfl,b9,b10,b11,hs.perm (by classical exact perm_iff_count.2 fun x=>by simp only[count_append,count_cons,count_nil];omega),rfl,rfl,rfl,rfl,rfl,rfl,trivial⟩
  ·refine WL.alloc ty3 rfl hs (fun b11 w hs=>?_)
   refine wZ<|⟨rfl,?_⟩
   refine AL.two 9 10 (by kernel_rfl) rfl rfl (hs.has (b5,blk 30 [.int .i64 rn,.int .i64 rd,.int .i64 rb]) (by simp)) (hs.has (b5,blk 30 [.int .i64 rn,.int .i64 rd,.int .i64 rb]) (by simp)) ?_ ?_
   ·refine WL.alloc ty3 rfl hs (fun b9 w hs=>?_)
    refine wZ<|⟨rfl,?_⟩
    refine AL.one 10 (by kernel_rfl) rfl (hs.has (b5,blk 30 [.int .i64 rn,.int .i64 rd,.int .i64 rb]) (by simp)) (hs.has (b5,blk 30 [.int .i64 rn,.int .i64 rd,.int .i64 rb]) (by simp)) ?_
    refine WL.alloc ty3 rfl hs (fun b10 w hs=>?_)
    refine wZ<|⟨rfl,?_⟩
    refine AL.one 12 (by kernel_rfl) rfl (hs.has (b5,blk 30 [.int .i64 rn,.int .i64 rd,.int .i64 rb]) (by simp)) (hs.has (b5,blk 30 [.int .i64 rn,.int .i64 rd,.int .i64 rb]) (by simp)) ?_
    refine ws1 ty3 rfl rfl (rfl) ((by exact hs.swap)) (fun w hs=>?_)
    refine wZ<|⟨rfl,?_⟩
    refine AL.one 13 (by kernel_rfl) rfl (hs.has (b5,blk 30 [.int .i64 rn,.int .i64 rd,.int .i64 rb]) (by simp)) (hs.has (b5,blk 30 [.int .i64 rn,.int .i64 rd,.int .i64 rb]) (by simp)) ?_
    refine ws1 ty3 rfl rfl (rfl) ((by exact hs.swap)) (fun w hs=>?_)
    refine wZ<|⟨rfl,?_⟩
    refine AL.one 14 (by kernel_rfl) rfl (hs.has (b5,blk 30 [.int .i64 rn,.int .i64 rd,.int .i64 rb]) (by simp)) (hs.has (b5,blk 30 [.int .i64 rn,.int .i64 rd,.int .i64 rb]) (by simp)) ?_
    refine ws1 ty3 rfl rfl (rfl) ((by exact Step.thd hs)) (fun w hs=>?_)
    refine wZ<|⟨rfl,?_⟩
    refine AL.end (by kernel_rfl) (hs.has (b5,blk 30 [.int .i64 rn,.int .i64 rd,.int .i64 rb]) (by simp)) (hs.has (b5,blk 30 [.int .i64 rn,.int .i64 rd,.int .i64 rb]) (by simp)) ?_
    replace hs:=(show Step (List.map (·.1) (L++D)) ((b11,blk 3 [.int .i64 (minZ rb 67108864)])::(b10,blk 3 [.int .i64 (minZ rn 65536)])::(b9,blk 3 [.int .i64 (minZ rd 32)])::(b8,blk 65 [.slice none 0 0])::(b5,blk 30 [.int .i64 rn,.int .i64 rd,.int .i64 rb])::(b4,blk 44 (u8s d))::(b3,blk 39 [.pointer (some ⟨bp,0,none⟩)])::(L++D)) w0 w from hs)
    rw[e1,e2,e3] at hs
    exact⟨rfl,b9,b10,b11,hs.perm (by classical exact perm_iff_count.2 fun x=>by simp only[count_append,count_cons,count_nil];omega),rfl,rfl,rfl,rfl,rfl,rfl,trivial⟩
   ·refine WL.alloc ty3 rfl hs (fun b10 w hs=>?_)
    refine wZ<|⟨rfl,?_⟩
    refine AL.one 9 (by kernel_rfl) rfl (hs.has (b5,blk 30 [.int .i64 rn,.int .i64 rd,.int .i64 rb]) (by simp)) (hs.has (b5,blk 30 [.int .i64 rn,.int .i64 rd,.int .i64 rb]) (by simp)) ?_
    refine WL.alloc ty3 rfl hs (fun b9 w hs=>?_)
    refine wZ<|⟨rfl,?_⟩
    refine AL.one 12 (by kernel_rfl) rfl (hs.has (b5,blk 30 [.int .i64 rn,.int .i64 rd,.int .i64 rb]) (by simp)) (hs.has (b5,blk 30 [.int .i64 rn,.int .i64 rd,.int .i64 rb]) (by simp)) ?_
    refine ws1 ty3 rfl rfl (rfl) ((by exact hs)) (fun w hs=>?_)
    refine wZ<|⟨rfl,?_⟩
    refine AL.one 13 (by kernel_rfl) rfl (hs.has (b5,blk 30 [.int .i64 rn,.int .i64 rd,.int .i64 rb]) (by simp)) (hs.has (b5,blk 30 [.int .i64 rn,.int .i64 rd,.int .i64 rb]) (by simp)) ?_
    refine ws1 ty3 rfl rfl (rfl) ((by exact hs.swap)) (fun w hs=>?_)
    refine wZ<|⟨rfl,?_⟩
    refine AL.one 14 (by kernel_rfl) rfl (hs.has (b5,blk 30 [.int .i64 rn,.int .i64 rd,.int .i64 rb]) (by simp)) (hs.has (b5,blk 30 [.int .i64 rn,.int .i64 rd,.int .i64 rb]) (by simp)) ?_
    refine ws1 ty3 rfl rfl (rfl) ((by exact Step.thd hs)) (fun w hs=>?_)
    refine wZ<|⟨rfl,?_⟩
    refine AL.end (by kernel_rfl) (hs.has (b5,blk 30 [.int .i64 rn,.int .i64 rd,.int .i64 rb]) (by simp)) (hs.has (b5,blk 30 [.int .i64 rn,.int .i64 rd,.int .i64 rb]) (by simp)) ?_
    replace hs:=(show Step (List.map (·.1) (L++D)) ((b11,blk 3 [.int .i64 (minZ rb 67108864)])::(b10,blk 3 [.int .i64 (minZ rn 65536)])::(b9,blk 3 [.int .i64 (minZ rd 32)])::(b8,blk 65 [.slice none 0 0])::(b5,blk 30 [.int .i64 rn,.int .i64 rd,.int .i64 rb])::(b4,blk 44 (u8s d))::(b3,blk 39 [.pointer (some ⟨bp,0,none⟩)])::(L++D)) w0 w from hs)
    rw[e1,e2,e3] at hs
    exact⟨rfl,b9,b10,b11,hs.perm (by classical exact perm_iff_count.2 fun x=>by simp only[count_append,count_cons,count_nil];omega),rfl,rfl,rfl,rfl,rfl,rfl,trivial⟩
 clear hs
 rintro f w ⟨b9,b10,b11,hs,hf⟩
 have ob:=hf.chain
 obtain⟨g,rfl⟩:=ob
 refine sr<|wV (run_makeFuncC rfl)<|WL.alloc ty150 rfl hs (fun b12 w hs=>?_)
 refine ws1 ty150 rfl rfl (rfl) hs (fun w hs=>?_)
 refine wZ<|sr<|WL.alloc ty151 rfl hs (fun b13 w hs=>?_)
 refine wZ<|sr<|wV (run_makeFuncC rfl)<|ws1 ty151 rfl rfl (rfl) hs (fun w hs=>?_)
 refine wZ ?_
 have ob:∃K,[(b3,blk 39 [.pointer (some ⟨bp,0,none⟩)]),(b9,blk 3 [.int .i64 rm.d]),(b12,blk 150 [.func (.func 75) #[] #[.pointer (some ⟨b9,0,none⟩),.pointer (some ⟨b10,0,none⟩),.pointer (some ⟨b3,0,none⟩)]]),(b13,blk 151 [.func (.func 77) #[] #[.pointer (some ⟨b12,0,none⟩),.pointer (some ⟨b8,0,none⟩),.pointer (some ⟨b13,0,none⟩),.pointer (some ⟨b11,0,none⟩)]])]=K:=⟨_,rfl⟩
 obtain⟨K,hK0⟩:=ob
 have hK:LdK b3 b8 b9 b10 b11 b12 b13 bp rm (K++D):=by rw[←hK0];exact⟨by simp,by simp,by simp,by simp⟩
 replace hs:Step (List.map (·.1) (L++D)) ([(b5,blk 30 [.int .i64 rn,.int .i64 rd,.int .i64 rb]),(b4,blk 44 (u8s d))]++(((b8,blk 65 [.slice none 0 0])::(b10,blk 3 [.int .i64 rm.n])::(b11,blk 3 [.int .i64 rm.b])::([]:List (Nat×Obj)))++(L++(K++D)))) w0 w:=by
  rw[←hK0]
  exact(show Step (List.map (·.1) (L++D)) ((b13,blk 151 [.func (.func 77) #[] #[.pointer (some ⟨b12,0,none⟩),.pointer (some ⟨b8,0,none⟩),.pointer (some ⟨b13,0,none⟩),.pointer (some ⟨b11,0,none⟩)]])::(b12,blk 150 [.func (.func 75) #[] #[.pointer (some ⟨b9,0,none⟩),.pointer (some ⟨b10,0,none⟩),.pointer (some ⟨b3,0,none⟩)]])::(b9,blk 3 [.int .i64 rm.d])::(b10,blk 3 [.int .i64 rm.n])::(b11,blk 3 [.int .i64 rm.b])::(b8,blk 65 [.slice none 0 0])::(b5,blk 30 [.int .i64 rn,.int .i64 rd,.int .i64 rb])::(b4,blk 44 (u8s d))::(b3,blk 39 [.pointer (some ⟨bp,0,none⟩)])::(L++D)) w0 w from hs).perm (by classical exact perm_iff_count.2 fun x=>by simp only[count_append,count_cons,count_nil];omega)
 have hW0:LdW b8 b10 b11 rm ws0 (K++D) ((b8,blk 65 [.slice none 0 0])::(b10,blk 3 [.int .i64 rm.n])::(b11,blk 3 [.int .i64 rm.b])::([]:List (Nat×Obj))):=⟨.slice none 0 0,[],[],by rw[show rm.n - ((ws0.n:Nat):Int)=rm.n by show rm.n - ((0:Nat):Int)=rm.n;omega,show rm.b - ((ws0.b:Nat):Int)=rm.b by show rm.b - ((0:Nat):Int)=rm.b;omega],OwnSl.nil _ _,rfl,fun u hu=>by cases hu⟩
 have hwk:=fun{w1:World} h=>ldw_spec (w0:=w1) (x:=rootS d) (t:=ws0) ok hrm hfew hN 34 rfl rfl hd (by simp[rootS]) (ws0_good.mono (by omega)) hK hW0 (hR.mono mem_right) h
 have ob:∃r,standP s rm 34 (rootS d) ws0=r:=⟨_,rfl⟩
 obtain⟨r,hr⟩:=ob
 rw[hr] at hwk⊢
 have h13:(b13,blk 151 [.func (.func 77) #[] #[.pointer (some ⟨b12,0,none⟩),.pointer (some ⟨b8,0,none⟩),.pointer (some ⟨b13,0,none⟩),.pointer (some ⟨b11,0,none⟩)]])∈K++D:=hK.m13
 refine cq<|sr<|wl ty151 rfl ((Step.inD (A:=[_,_]) (W:=_::_::_::[]) hs h13 rfl))<|wV (run_loadN ty44 rfl hdl hs.a1)<|wE rfl (run_callV (cap:=[.pointer (some ⟨b12,0,none⟩),.pointer (some ⟨b8,0,none⟩),.pointer (some ⟨b13,0,none⟩),.pointer (some ⟨b11,0,none⟩)]) en77 rfl rfl) (hwk (Lives.mk hs.tail.tail)) ?_
 rintro e w ⟨W1,L1,D1,rfl,hW1,hP1,hq⟩
 refine⟨_,rfl,?_⟩
 replace hs:=Step.wput (A:=[_,_]) (W:=_::_::_::[]) hs hq
 refine wA<|wZ ?_
 by_cases he:r.1≠0
 ·refine sr<|wm<|wV (run_bT (run_neq rfl rfl) (by exact he))<|wZ<|CW.cond rfl (fun h=>?_) (fun h=>?_)
  ·refine sr<|wm<|wA<|wA<|wZ<|CW.ret ?_
   refine fin_ret2 rfl ?_
   exact⟨_,[],[],L1,D1++K,rfl,by rw[append_assoc];exact hP1,OwnSl.nil _ _,(fun h=>absurd h he),(fun _=>rfl),(fun u hu=>by cases hu),Step.fin (M:=[]) hw (by rw[append_assoc];exact Step.dropL (L1:=W1) hs.tail.tail)⟩
  ·cases h
 have he0:r.1=0:=by simpa using he
 have ob:=hW1 he0
 obtain⟨vL,LL,T,rfl,hvL,hT,hTD⟩:=ob
 have hTl:T.length=r.2.l.length:=by rw[←hT,length_map]
 have ob:=hvL.form
 obtain⟨la,lc,rfl⟩:=ob
 refine sr<|wm<|wV (run_bF (run_neq rfl rfl) (by exact he))<|wZ<|CW.cond rfl (fun h=>?_) (fun h=>?_)
 ·cases h
 replace hs:=hs.tail.tail
 refine ck<|sr<|wl ty65 rfl (hs.c0 (v:=.slice la r.2.l.length lc) rfl)<|wA<|wA<|wZ<|CW.ret ?_
 refine fin_ret2 rfl ?_
 exact⟨_,T,LL,L1,D1++K,congrArg (fun z=>Ending.returned (.tuple #[.slice la r.2.l.length lc,.int .i64 z])) he0.symm,by rw[append_assoc];exact hP1,by rw[hTl];exact hvL,(fun _=>hT),(fun h=>absurd he0 h),(fun u hu=>by rw[append_assoc];exact hTD u hu),Step.fin (M:=LL) hw (by rw[append_assoc];exact hs.tail.tail.tail)⟩
end
end Go.Gx
namespace Go.Gx
open Go.Proofs List
attribute [local irreducible] shaL cutD frontL decL decE
abbrev MLe (t u:WS):Prop:=∀p∈t.m,p∈u.m
theorem push_mle (x:Std) (t:WS):MLe t (push x t):=by
 intro p hp
 rw[push_m];exact hp
section
variable {s s':AS}{rm:Rm}
theorem visit_mle (x:Std) (t:WS):MLe t (visit s rm x t).2.2:=by
 unfold visit
 split
 ·exact fun _ h=>h
 ·split
  ·exact fun _ h=>h
  ·split
   ·exact fun _ h=>mem_append_left _ h
   ·split
    ·split
     ·exact fun _ h=>mem_append_left _ h
     ·exact fun _ h=>mem_append_left _ h
    ·split
     ·exact fun _ h=>mem_append_left _ h
     ·exact fun _ h=>mem_append_left _ h
theorem seqS_mle{f:Std→WS→Int×WS} (hf:∀x t,MLe t (f x t).2):∀(l:List Std) (t:WS),MLe t (seqS f l t).2
 | [],t=>fun _ h=>h
 | x::l,t=>by
  rw[seqS]
  split
  ·exact hf x t
  ·exact fun p hp=>seqS_mle hf l _ p (hf x t p hp)
theorem standP_mle:∀(n:Nat) (x:Std) (t:WS),MLe t (standP s rm n x t).2
 | 0,x,t=>fun _ h=>h
 | n+1,x,t=>by
  rw[standP]
  split
  ·exact visit_mle x t
  ·exact fun p hp=>seqS_mle (fun y u p hp=>standP_mle n y (push y u) p (push_mle y u p hp)) _ _ p (visit_mle x t p hp)
theorem visit_met{x:Std}{t:WS} (h:(visit s rm x t).1=0):(x.d,x.dir)∈(visit s rm x t).2.2.m:=by
 by_cases c1:rm.d<x.dep
 ·rw[visit,if_pos c1] at h;cases h
 by_cases c2:rm.n<(t.n:Int)+1
 ·rw[visit,if_neg c1,if_pos c2] at h;cases h
 have hm:∀u:WS,u.m=t.m++[(x.d,x.dir)]→(x.d,x.dir)∈u.m:=fun u h=>by rw[h];simp
 rw[visit,if_neg c1,if_neg c2]
 split
 ·exact hm _ rfl
 ·split
  ·split
   ·exact hm _ rfl
   ·exact hm _ rfl
  ·split
   ·exact hm _ rfl
   ·exact hm _ rfl
theorem visit_same{x:Std}{t:WS} (h:s'.get x.d=s.get x.d):visit s' rm x t=visit s rm x t:=by
 unfold visit
 rw[h]
theorem seqS_same {f f':Std→WS→Int×WS}{T:WS} (hf:∀x t,MLe t (f x t).2):∀(l:List Std) (t:WS),(∀y∈l,∀u,(f y u).1=0→MLe (f y u).2 T→f' y u=f y u)→(seqS f l t).1=0→MLe (seqS f l t).2 T→seqS f' l t=seqS f l t
 | [],t,_,_,_=>rfl
 | y::l,t,h,h0,hT=>by
  by_cases c:(f y t).1≠0
  ·rw[seqS,if_pos c] at h0
   exact absurd h0 c
  rw[seqS,if_neg c] at h0 hT
  have hp:=seqS_mle hf l (f y t).2
  have e:=h y (by simp) t (by simpa using c) (fun p hq=>hT p (hp p hq))
  rw[seqS,seqS,e,if_neg c,if_neg c]
  exact seqS_same hf l _ (fun z hz=>h z (by simp[hz])) h0 hT
theorem standP_same{T:WS} (hg:∀p∈T.m,s'.get p.1=s.get p.1):∀(n:Nat) (x:Std) (t:WS),(standP s rm n x t).1=0→MLe (standP s rm n x t).2 T→standP s' rm n x t=standP s rm n x t
 | 0,x,t,h,_=>by rw[standP] at h;cases h
 | n+1,x,t,h,hT=>by
  have hv:(visit s rm x t).1=0:=by
   by_cases c:(visit s rm x t).1=0
   ·exact c
   ·rw[standP,if_pos c] at h
    exact absurd h c
  rw[standP,if_neg (fun k=>k hv)] at h hT
  have hp:=seqS_mle (fun y u p hp=>standP_mle (s:=s) (rm:=rm) n y (push y u) p (push_mle y u p hp)) (visit s rm x t).2.1 (visit s rm x t).2.2
  have e:=visit_same (s:=s) (s':=s') (rm:=rm) (x:=x) (t:=t) (hg _ (hT _ (hp _ (visit_met hv))))
  rw[standP,standP,e,if_neg (fun k=>k hv),if_neg (fun k=>k hv)]
  exact seqS_same (fun y u p hp=>standP_mle n y (push y u) p (push_mle y u p hp)) _ _ (fun y hy u h1 h2=>standP_same hg n y (push y u) h1 h2) h hT
theorem runs_same{d:List UInt8} (h:(runs s rm [rootS d] ws0).1=0) (hg:∀p∈(runs s rm [rootS d] ws0).2.m,s'.get p.1=s.get p.1):runs s' rm [rootS d] ws0=runs s rm [rootS d] ws0:=by
 rw[runs_root,runs_root] at *
 exact standP_same hg 34 _ _ h fun _ h=>h
end
theorem evAll_get{d:List UInt8}:∀{l:List (List UInt8)}{s:AS},d∉l→(evAll s l).get d=s.get d
 | [],_,_=>rfl
 | e::l,s,h=>by
  rw[mem_cons,not_or] at h
  show(evAll (s.evict e) l).get d=_
  rw[evAll_get h.2,AS.get,AS.get]
  show(match findX d (delX e s.X) with | none=>([],41) | some b=>if frontL b.x s.k=d then (b.x,0) else ([],42))=_
  rw[findX_del h.1]
  rfl
theorem evAll_X:∀{l:List (List UInt8)}{s:AS},(evAll s l).X=s.X.filter fun b=>decide (b.d∉l)
 | [],s=>(filter_eq_self.2 fun b _=>by simp).symm
 | e::l,s=>by
  show(evAll (s.evict e) l).X=_
  rw[evAll_X]
  show(delX e s.X).filter _=_
  rw[delX,filter_filter]
  congr 1
  funext b
  simp only[mem_cons,not_or,Bool.decide_and]
  rw[Bool.and_comm]
theorem goneL_mem{m l:List (List UInt8)}{d:List UInt8}:d∈goneL m l↔d∈l∧d∉m:=by simp[goneL]
theorem left_met{s:AS}{m:List (List UInt8)}:∀b∈(evAll s (goneL m (s.X.map (·.d)))).X,b.d∈m:=fun b hb=>by
 rw[evAll_X,mem_filter] at hb
 by_cases h:b.d∈m
 ·exact h
 ·have h2:b.d∈goneL m (s.X.map (·.d)):=goneL_mem.2 ⟨mem_map_of_mem hb.1,h⟩
  simp[h2] at hb
theorem gone_again{s:AS}{m:List (List UInt8)}:goneL m ((evAll s (goneL m (s.X.map (·.d)))).X.map (·.d))=[]:=by
 rw[goneL,filter_eq_nil_iff]
 intro d hd
 have ob:=mem_map.1 hd
 obtain⟨b,hb,rfl⟩:=ob
 simp[left_met b hb]
theorem left_len{s:AS}{m:List (List UInt8)}:(evAll s (goneL m (s.X.map (·.d)))).X.length+(goneL m (s.X.map (·.d))).length=s.X.length:=by
 have h1:(evAll s (goneL m (s.X.map (·.d)))).X=s.X.filter fun b=>decide (b.d∈m):=by
  rw[evAll_X]
  apply filter_congr
  intro b hb
  have:b.d∈goneL m (s.X.map (·.d))↔b.d∉m:=⟨fun h=>(goneL_mem.1 h).2,fun h=>goneL_mem.2 ⟨mem_map_of_mem hb,h⟩⟩
  by_cases h:b.d∈m <;> simp[this,h]
 rw[h1,goneL]
 generalize s.X=X
 induction X with
 | nil=>rfl
 | cons b X ih=>
  by_cases h:b.d∈m
  ·simp only[map_cons,filter_cons,h,decide_true,if_true,not_true_eq_false,decide_false,Bool.false_eq_true,if_false,length_cons]
   omega
  ·simp only[map_cons,filter_cons,h,decide_false,Bool.false_eq_true,if_false,not_false_eq_true,decide_true,if_true,length_cons]
   omega
end Go.Gx
namespace Go.Gx
open Go.Proofs List
attribute [local irreducible] shaL cutD frontL
theorem hasL8_spec{v:Value}{l:List (List UInt8)}{d:List UInt8}{w0:World} (hv:Dgs w0 v l) (hd:d.length=32):CP 32 #[v,.agg (u8s d).toArray] w0 (Ret0 (.bool (decide (d∈l))) w0):=by
 have hs:Step [] [] w0 w0:=Step.refl w0
 have hdl:(u8s d).length=32:=by rw[u8s,length_map,hd]
 have ob:=hv.form
 obtain⟨a,c,rfl⟩:=ob
 have hsm:=hv.small
 have ob:∃r,decide (d∈l)=r:=⟨_,rfl⟩
 obtain⟨r,hr⟩:=ob
 rw[hr]
 refine calls (n:=18) Tryz.func32 rfl rfl rfl ?_
 refine sr<|WL.box (cs:=u8s d) rfl rfl rfl hs (fun b3 w hs=>?_)
 refine wA<|wZ<|cq<|sr<|wA<|wZ<|cB<|CW.loop (fun m f w'=>∃i,i≤l.length∧m=l.length - i∧d∉l.take i∧Step [] [(b3,blk 44 (u8s d))] w0 w'∧Holds f [(0,.slice a l.length c),(3,.pointer (some ⟨b3,0,none⟩)),(5,.int .i64 (i:Nat))]) (m:=l.length) ?_ ?_
 ·exact⟨0,Nat.zero_le _,rfl,by simp,hs,rfl,rfl,rfl,trivial⟩
 ·rintro m f w ⟨i,hi,rfl,hno,hs,hf⟩
  have ob:=hf.chain
  obtain⟨g,rfl⟩:=ob
  by_cases hlt:i<l.length
  ·have ob:∃e,l[i]?=some e:=⟨_,getElem?_eq_getElem hlt⟩
   obtain⟨e,he⟩:=ob
   have ob:=hv.at he
   obtain⟨b,off,c',hb,hat⟩:=ob
   cases hb
   have hel:=hv.len e (mem_of_getElem? he)
   have hel2:(u8s e).length=32:=by rw[u8s,length_map,hel]
   have htk:l.take (i+1)=l.take i++[e]:=by rw[take_add_one,he];rfl
   refine cq<|sr<|wm<|wm<|wV (run_lenSl u35 rfl)<|wV (run_bT (run_lss rfl rfl) (by omega))<|wZ<|CW.cond rfl (fun h=>?_) (fun h=>?_)
   ·by_cases hed:e=d
    ·refine ck<|cq<|cB<|cq<|CW.quiet mixedP (by kernel_rfl) hs ?_
     refine qm<|qm<|qV (fun w hs=>run_ixSlN u35 ty44 rfl rfl (by omega))<|qV (fun w hs=>run_loadN ty44 rfl hel2 (hat.step hs.clear (by simp)))<|qV (fun w hs=>run_loadN ty44 rfl hdl hs.a0)<|qV (fun w hs=>run_bT (run_eqDig hel hd rfl rfl) hed)<|QL.nil (fun w hs=>?_)
     refine CW.cond rfl (fun h=>?_) (fun h=>?_)
     ·refine sr<|wA<|wZ<|CW.ret ?_
      refine fin_ret1 rfl ?_
      have hm:d∈l:=hed▸mem_of_getElem? he
      exact⟨congrArg (fun b=>Ending.returned (.bool b)) (by rw[←hr];simp[hm]),hs.clear⟩
     ·cases h
    ·refine ck<|cq<|cB<|cq<|CW.quiet mixedP (by kernel_rfl) hs ?_
     refine qm<|qm<|qV (fun w hs=>run_ixSlN u35 ty44 rfl rfl (by omega))<|qV (fun w hs=>run_loadN ty44 rfl hel2 (hat.step hs.clear (by simp)))<|qV (fun w hs=>run_loadN ty44 rfl hdl hs.a0)<|qV (fun w hs=>run_bF (run_eqDig hel hd rfl rfl) hed)<|QL.nil (fun w hs=>?_)
     refine CW.cond rfl (fun h=>?_) (fun h=>?_)
     ·cases h
     refine ck<|cr<|wm<|wV (run_add (c:=((i+1:Nat):Int)) rfl rfl (by omega) (by omega))<|wA<|wZ<|(show _∧_ from⟨rfl,_,?_,i+1,hlt,rfl,?_,hs,rfl,rfl,rfl,trivial⟩)
     ·omega
     ·rw[htk,mem_append,mem_singleton]
      exact fun h=>h.elim hno (fun h=>hed h.symm)
   ·cases h
  ·obtain rfl:i=l.length:=by omega
   rw[take_length] at hno
   refine cq<|sr<|wm<|wm<|wV (run_lenSl u35 rfl)<|wV (run_bF (run_lss rfl rfl) (by omega))<|wZ<|CW.cond rfl (fun h=>?_) (fun h=>?_)
   ·cases h
   refine CW.exit<|sr<|wA<|wZ<|CW.ret ?_
   refine fin_ret1 rfl ?_
   exact⟨congrArg (fun b=>Ending.returned (.bool b)) (by rw[←hr];simp[hno]),hs.clear⟩
section
variable{P:Program}{f:Slots}{w:World}{d:Option Tmp}{ty:TypeId}{pos:String}{af:Array Edge}{x y:Operand}{T T':TypeId}
theorem run_neSelf{b:Bool} (ht:P.underlying T=some .bool) (hx:ev f x=.bool b) (hy:ev f y=.bool b):(execOp (ev f) ⟨d,.binOp .neq T x y T',ty,pos,af,none⟩).run P w=.ok (.value (.bool false)) w:=by
 have h:=run_neqB (d:=d) (ty:=ty) (pos:=pos) (af:=af) (T':=T') (w:=w) ht hx hy
 rw[h]
 cases b <;> rfl
end
theorem rowsSl{w:World}{u:Value}{T:List (WI×Value)} (h:Sl w 3 u T.length (rowsW T)) (hl:0<T.length):∃b off c,u=.slice (some ⟨b,off,none⟩) T.length c∧At w b off (rowsW T):=by
 obtain⟨_,⟨_,_,h1,h2⟩ | ⟨b,off,c,h1,h2⟩⟩:=h
 ·omega
 ·exact⟨b,off,c,h1,h2⟩
set_option maxHeartbeats 4000000 in
theorem sameIt_spec{u v:Value}{T T':List (WI×Value)} (w0:World) (hu:Sl w0 3 u T.length (rowsW T)) (hv:Sl w0 3 v T'.length (rowsW T')) (hT:T.map (·.1)=T'.map (·.1)) (hd:∀t∈T,Sl w0 1 t.2 t.1.x.length (u8s t.1.x)) (hd':∀t∈T',Sl w0 1 t.2 t.1.x.length (u8s t.1.x)) (hlen:T.length<1099511627776) :
  CP 30 #[u,v] w0 (Ret0 (.bool true) w0):=by
 have hs:Step [] [] w0 w0:=Step.refl w0
 have hTl:T.length=T'.length:=by have h:=congrArg List.length hT;rwa [length_map,length_map] at h
 have hu0:=hu
 have hv0:=hv
 have ob:=hu.form
 obtain⟨ua,uc,rfl⟩:=ob
 have ob:=hv.form
 obtain⟨va,vc,rfl⟩:=ob
 refine calls (n:=56) Tryz.func30 rfl rfl rfl ?_
 refine sr<|wA<|wZ<|cq<|sr<|wm<|wV (run_lenSl u65 rfl)<|wm<|wV (run_lenSl u65 rfl)<|wV (run_bF (run_neq rfl rfl) (by omega))<|wZ<|CW.cond rfl (fun h=>?_) (fun h=>?_)
 ·cases h
 refine ck<|cq<|sr<|wA<|wZ<|cB<|CW.loop (fun z f w'=>∃i,i≤T.length∧z=T.length - i∧Step [] [] w0 w'∧Holds f [(0,.slice ua T.length uc),(1,.slice va T'.length vc),(5,.int .i64 (i:Nat))]) (m:=T.length) ?_ ?_
 ·exact⟨0,Nat.zero_le _,rfl,hs,rfl,rfl,rfl,trivial⟩
 clear hs
 rintro z f w ⟨i,hi,rfl,hs,hf⟩
 by_cases hlt:i<T.length
 ·have ob:∃t,T[i]?=some t:=⟨_,getElem?_eq_getElem hlt⟩
  obtain⟨t,ht⟩:=ob
  have ob:∃t',T'[i]?=some t':=⟨_,getElem?_eq_getElem (by omega)⟩
  obtain⟨t',ht'⟩:=ob
  have he:t.1=t'.1:=by
   have h1:(T.map (·.1))[i]?=some t.1:=by rw[getElem?_map,ht];rfl
   have h2:(T'.map (·.1))[i]?=some t'.1:=by rw[getElem?_map,ht'];rfl
   rw[hT,h2] at h1
   exact(Option.some.inj h1).symm
  have ob:=rowsSl hu0 (by omega)
  obtain⟨bu,ou,cu,hue,hua⟩:=ob
  have ob:=rowsSl hv0 (by omega)
  obtain⟨bv,ov,cv,hve,hva⟩:=ob
  rw[hue,hve] at hf
  have ob:=hf.chain
  obtain⟨g,rfl⟩:=ob
  have hr:=rowsW_at hua ht
  have hr':=rowsW_at hva ht'
  have h1:=hd t (mem_of_getElem? ht)
  have h2:=hd' t' (mem_of_getElem? ht')
  obtain⟨⟨p,dir,y⟩,v1⟩:=t
  obtain⟨i2,v2⟩:=t'
  obtain rfl:(⟨p,dir,y⟩:WI)=i2:=he
  refine cq<|sr<|wm<|wm<|wV (run_lenSl u65 rfl)<|wV (run_bT (run_lss rfl rfl) (by omega))<|wZ<|CW.cond rfl (fun h=>?_) (fun h=>?_)
  ·refine ck<|cq<|cB<|cq<|CW.quiet mixedP (by kernel_rfl) hs ?_
   refine qm<|qm<|qV (fun w hs=>run_ixSlN u65 ty155 rfl rfl (by omega))<|qF 0 u155 rfl ty9 rfl<|qV (fun w hs=>run_load1 ty9 rfl ((hr.step hs (by simp)).cell (j:=0) rfl))<|qm<|qm<|qV (fun w hs=>run_ixSlN u65 ty155 rfl rfl (by omega))<|qF 0 u155 rfl ty9 rfl<|qV (fun w hs=>run_load1 ty9 rfl ((hr'.step hs (by simp)).cell (j:=0) rfl))<|qV (fun w hs=>run_bF (run_strNe rfl rfl) (by exact fun h=>h rfl))<|qm<|qy<|qm ?_
   refine qy<|qm ?_
   refine qy ?_;(first | refine QL.val rfl (fun w hs=>run_ixSlN u65 ty155 rfl rfl (by omega)) ?_ | refine QL.val rfl (fun w hs=>run_ixSl u65 ty155 rfl rfl (by omega)) ?_)
   refine qy<|qF 1 u155 rfl ty4 rfl<|qy<|qV (fun w hs=>run_load1 ty4 rfl ((hr.step hs (by simp)).cell (j:=1) rfl))<|qy<|qm<|qy<|qm ?_
   refine qy ?_;(first | refine QL.val rfl (fun w hs=>run_ixSlN u65 ty155 rfl rfl (by omega)) ?_ | refine QL.val rfl (fun w hs=>run_ixSl u65 ty155 rfl rfl (by omega)) ?_)
   refine qy<|qF 1 u155 rfl ty4 rfl<|qy<|qV (fun w hs=>run_load1 ty4 rfl ((hr'.step hs (by simp)).cell (j:=1) rfl))<|qy<|qV (fun w hs=>run_neSelf u4 rfl rfl)<|qV (fun w hs=>run_pickF rfl)<|qm<|qy<|qm<|qy<|qm ?_
   refine qy ?_;(first | refine QL.val rfl (fun w hs=>run_ixSlN u65 ty155 rfl rfl (by omega)) ?_ | refine QL.val rfl (fun w hs=>run_ixSl u65 ty155 rfl rfl (by omega)) ?_)
   refine qy<|qF 2 u155 rfl ty76 rfl<|qy<|qV (fun w hs=>run_load1 ty76 rfl ((hr.step hs (by simp)).cell (j:=2) rfl))<|qy<|qV (fun w hs=>run_toString u76 u9 u5 rfl (h1.step0 hs))<|qy<|qm<|qy<|qm ?_
   refine qy ?_;(first | refine QL.val rfl (fun w hs=>run_ixSlN u65 ty155 rfl rfl (by omega)) ?_ | refine QL.val rfl (fun w hs=>run_ixSl u65 ty155 rfl rfl (by omega)) ?_)
   refine qy<|qF 2 u155 rfl ty76 rfl<|qy<|qV (fun w hs=>run_load1 ty76 rfl ((hr'.step hs (by simp)).cell (j:=2) rfl))<|qy<|qV (fun w hs=>run_toString u76 u9 u5 rfl (h2.step0 hs))<|qy<|qV (fun w hs=>run_bF (run_strNe rfl rfl) (by exact fun h=>h rfl))<|qV (fun w hs=>run_pickF rfl)<|QL.nil (fun w hs=>?_)
   refine CW.cond rfl (fun h=>?_) (fun h=>?_)
   ·cases h
   refine ck<|cr<|wm<|wV (run_add (c:=((i+1:Nat):Int)) rfl rfl (by omega) (by omega))<|wA<|wZ<|(show _∧_ from⟨rfl,_,?_,i+1,hlt,rfl,hs,hue.symm,hve.symm,rfl,trivial⟩)
   omega
  ·cases h
 ·have ob:=hf.chain
  obtain⟨g,rfl⟩:=ob
  obtain rfl:i=T.length:=by omega
  refine cq<|sr<|wm<|wm<|wV (run_lenSl u65 rfl)<|wV (run_bF (run_lss rfl rfl) (by omega))<|wZ<|CW.cond rfl (fun h=>?_) (fun h=>?_)
  ·cases h
  refine CW.exit<|sr<|wA<|wZ<|CW.ret ?_
  refine fin_ret1 rfl ?_
  exact⟨rfl,hs⟩
section
variable {s s':AS}{rm:Rm}
theorem sweepW_congr:∀{l:List (List UInt8)}{g:Nat}{m:List (List UInt8)},(∀d∈l,runs s' rm [rootS d] ws0=runs s rm [rootS d] ws0)→sweepW s' rm l g m=sweepW s rm l g m
 | [],_,_,_=>rfl
 | d::l,g,m,h=>by
  rw[sweepW,sweepW,h d (by simp)]
  split
  ·rfl
  ·exact sweepW_congr fun e he=>h e (by simp[he])
theorem sweepW_gotN{l:List (List UInt8)}{g G:Nat}{m:List (List UInt8)}:sweepW (s.gotN G) rm l g m=sweepW s rm l g m:=sweepW_congr fun d _=>runs_gotN _ _
theorem sweepW_snoc:∀{l:List (List UInt8)}{d:List UInt8}{g:Nat}{m:List (List UInt8)},(sweepW s rm l g m).1=0→sweepW s rm (l++[d]) g m=if (runs s rm [rootS d] ws0).1≠0 then ((runs s rm [rootS d] ws0).1,(sweepW s rm l g m).2.1+(runs s rm [rootS d] ws0).2.g,(sweepW s rm l g m).2.2) else (0,(sweepW s rm l g m).2.1+(runs s rm [rootS d] ws0).2.g,(sweepW s rm l g m).2.2++ordM (runs s rm [rootS d] ws0).2.m)
 | [],d,g,m,_=>rfl
 | e::l,d,g,m,h=>by
  by_cases he:(runs s rm [rootS e] ws0).1≠0
  ·rw[sweepW,if_pos he] at h
   exact absurd h he
  rw[sweepW,if_neg he] at h
  rw[cons_append,sweepW,if_neg he,sweepW,if_neg he]
  exact sweepW_snoc h
theorem sweepW_ok:∀{l:List (List UInt8)}{g:Nat}{m:List (List UInt8)},(sweepW s rm l g m).1=0→(∀d∈l,(runs s rm [rootS d] ws0).1=0∧∀e∈ordM (runs s rm [rootS d] ws0).2.m,e∈(sweepW s rm l g m).2.2)∧∀e∈m,e∈(sweepW s rm l g m).2.2
 | [],g,m,_=>⟨(fun d hd=>by cases hd),fun e he=>he⟩
 | d::l,g,m,h=>by
  by_cases he:(runs s rm [rootS d] ws0).1≠0
  ·rw[sweepW,if_pos he] at h
   exact absurd h he
  rw[sweepW,if_neg he] at h⊢
  have ob:=sweepW_ok h
  obtain⟨h1,h2⟩:=ob
  refine⟨fun x hx=>?_,fun e he=>h2 e (mem_append_left _ he)⟩
  rcases mem_cons.1 hx with rfl | hx
  ·exact⟨by simpa using he,fun e he=>h2 e (mem_append_right _ he)⟩
  ·exact h1 x hx
theorem sweep_first{l:List (List UInt8)}{G:Nat} (hl:l.length≤65536) (h:(sweepW s rm l 0 []).1=0):sweepR (s.gotN G) rm l=((goneL (sweepW s rm l 0 []).2.2 (s.X.map (·.d))).length,0,evAll (s.gotN (G+(sweepW s rm l 0 []).2.1)) (goneL (sweepW s rm l 0 []).2.2 (s.X.map (·.d)))):=by
 rw[sweepR,if_neg (by omega),sweepW_gotN,if_neg (fun k=>k h),gotN_add]
 rfl
theorem sweep_stop{l:List (List UInt8)}{G:Nat} (hl:l.length≤65536) (h:(sweepW s rm l 0 []).1≠0):sweepR (s.gotN G) rm l=(0,(sweepW s rm l 0 []).1,s.gotN (G+(sweepW s rm l 0 []).2.1)):=by
 rw[sweepR,if_neg (by omega),sweepW_gotN,if_pos h,gotN_add]
theorem swept_runs{l:List (List UInt8)}{G:Nat} (h:(sweepW s rm l 0 []).1=0):∀d∈l,runs (evAll (s.gotN G) (goneL (sweepW s rm l 0 []).2.2 (s.X.map (·.d)))) rm [rootS d] ws0=runs s rm [rootS d] ws0:=fun d hd=>by
 have ob:=(sweepW_ok h).1 d hd
 obtain⟨h1,h2⟩:=ob
 refine runs_same h1 fun p hp=>?_
 have hm:=h2 p.1 (ordM_mem.2 (mem_map_of_mem hp))
 rw[evAll_get fun k=>(goneL_mem.1 k).2 hm]
 rfl
theorem sweep_again{l:List (List UInt8)}{G:Nat} (hl:l.length≤65536) (h:(sweepW s rm l 0 []).1=0):sweepR (evAll (s.gotN G) (goneL (sweepW s rm l 0 []).2.2 (s.X.map (·.d)))) rm l=(0,0,(evAll (s.gotN G) (goneL (sweepW s rm l 0 []).2.2 (s.X.map (·.d)))).gotN (sweepW s rm l 0 []).2.1):=by
 have e:=sweepW_congr (g:=0) (m:=[]) (swept_runs (G:=G) h)
 have e2:goneL (sweepW s rm l 0 []).2.2 ((evAll (s.gotN G) (goneL (sweepW s rm l 0 []).2.2 (s.X.map (·.d)))).X.map (·.d))=[]:=gone_again (s:=s.gotN G)
 rw[sweepR,if_neg (by omega),e,if_neg (fun k=>k h),e2]
 rfl
end
end Go.Gx
namespace Go.Gx
open Go.Proofs Go.RowKit List
attribute [local irreducible] shaL cutD frontL
section
variable{α:Type}{a b c e:α}{A B C D Y Z M:List α}
theorem perm_e1:((e::(A++(B++(C++D))))++[a,b]).Perm (a::e::b::(A++(B++(C++D)))):=by
 classical exact perm_iff_count.2 fun x=>by simp only[count_append,count_cons,count_nil];omega
theorem perm_e2:(c::a::e::b::(A++Z)).Perm ((c::a::e::b::(A++([]++([]++[]))))++Z):=by
 classical exact perm_iff_count.2 fun x=>by simp only[count_append,count_cons,count_nil];omega
theorem perm_e3:((c::a::e::b::(A++(B++(C++M))))++Z).Perm (B++((c::a::e::b::(A++(C++M)))++Z)):=by
 classical exact perm_iff_count.2 fun x=>by simp only[count_append,count_cons];omega
theorem perm_e4:((c::a::e::b::(A++(B++(C++M))))++Z).Perm (C++((c::a::e::b::(A++(B++M)))++Z)):=by
 classical exact perm_iff_count.2 fun x=>by simp only[count_append,count_cons];omega
theorem perm_e5:((c::a::e::b::(A++(B++(C++M))))++Z).Perm (M++((c::a::e::b::(A++(B++C)))++Z)):=by
 classical exact perm_iff_count.2 fun x=>by simp only[count_append,count_cons];omega
theorem perm_e7{q:α}{L:List α}:((q::L)++((c::a::e::b::A)++(B++(C++D)))).Perm (a::((q::L)++((c::e::b::A)++(B++(C++D))))):=by
 classical exact perm_iff_count.2 fun x=>by simp only[count_append,count_cons];omega
theorem perm_e6:((c::a::e::b::(A++(B++(C++M))))++(Y++(Z++D))).Perm ((c::a::e::b::(A++([]++(C++M))))++(Y++(Z++(B++D)))):=by
 classical exact perm_iff_count.2 fun x=>by simp only[count_append,count_cons,count_nil];omega
end
def HeldR (D:List (Nat×Obj)) (v:Value) (T:List (WI×Value)):Prop:=(∃Lt,OwnSl 155 3 v T.length (rowsW T) Lt∧∀p∈Lt,p∈D)∧∀u∈T,Held D u.2 u.1.x
theorem HeldR.mono {D D':List (Nat×Obj)}{v:Value}{T:List (WI×Value)} (h:HeldR D v T) (hD:∀p∈D,p∈D'):HeldR D' v T:=by
 obtain⟨⟨Lt,h1,h2⟩,h3⟩:=h
 exact⟨⟨Lt,h1,fun p hp=>hD p (h2 p hp)⟩,fun u hu=>(h3 u hu).mono hD⟩
def Trees (s:AS) (D:List (Nat×Obj)) (ds:List (List UInt8)) (B:List (Value×List (WI×Value))):Prop:=B.length=ds.length∧∀(j:Nat) (t:Value×List (WI×Value)) (d:List UInt8),B[j]?=some t→ds[j]?=some d→t.2.map (·.1)=(runs s rmG [rootS d] ws0).2.l∧HeldR D t.1 t.2
theorem Trees.mono{s:AS}{D D':List (Nat×Obj)}{ds:List (List UInt8)}{B:List (Value×List (WI×Value))} (h:Trees s D ds B) (hD:∀p∈D,p∈D'):Trees s D' ds B:=⟨h.1,fun j t d h1 h2=>⟨(h.2 j t d h1 h2).1,(h.2 j t d h1 h2).2.mono hD⟩⟩
theorem Trees.add{s:AS}{D:List (Nat×Obj)}{ds:List (List UInt8)}{B:List (Value×List (WI×Value))}{v:Value}{T:List (WI×Value)}{d:List UInt8} (h:Trees s D ds B) (h1:T.map (·.1)=(runs s rmG [rootS d] ws0).2.l) (h2:HeldR D v T):Trees s D (ds++[d]) (B++[(v,T)]):=by
 refine⟨by rw[length_append,length_append,h.1];rfl,fun j t e hj he=>?_⟩
 by_cases hlt:j<B.length
 ·rw[getElem?_append_left hlt] at hj
  rw[getElem?_append_left (by rw[←h.1];exact hlt)] at he
  exact h.2 j t e hj he
 ·rw[getElem?_append_right (by omega)] at hj
  rw[getElem?_append_right (by rw[←h.1];omega),←h.1] at he
  have hz:j - B.length=0:=by
   have:=(List.getElem?_eq_some_iff.1 hj).1
   simp at this
   omega
  rw[hz] at hj he
  simp only[getElem?_cons_zero,Option.some.injEq] at hj he
  subst hj he
  exact⟨h1,h2⟩
section
variable{wd:Int}{x:Stup}{v:Value}{l:List Int}
set_option maxHeartbeats 32000000 in
theorem flowSwept_spec (w0:World) (hx:x.Ok w0) (hl:Nums w0 v l) :
  CP 7 #[.int .i64 wd,.agg x.cells.toArray,v] w0 (Ret0 (.bool true) w0):=by
 have hs:Step [] [] w0 w0:=Step.refl w0
 have hcl:x.cells.length=6:=rfl
 have hlen:=hl.len
 have ob:=hl.sl.form
 obtain⟨va,vc,rfl⟩:=ob
 refine callsM (n:=219) Tryz.func7 rfl rfl rfl ?_
 by_cases hbad:(wd<1∨32<wd)∨¬(0≤x.cap∧x.cap≤67108864)
 ·refine sr<|WL.box (cs:=x.cells) rfl rfl rfl hs (fun b4 w hs=>?_)
  refine WL.alloc ty4 rfl hs (fun b6 w hs=>?_)
  refine wZ<|cq<|sr<|wE rfl (run_call en15 rfl rfl) (known8_spec _) ?_
  rintro e w ⟨rfl,hq⟩
  refine⟨_,rfl,?_⟩
  replace hs:=hs.callE hq
  refine wV (run_not rfl)<|wZ<|CW.cond rfl (fun h=>?_) (fun h=>?_)
  ·cases h
  refine ck<|sr<|wm<|wV (run_loadN ty28 rfl hcl hs.a1)<|wE rfl (run_call en16 rfl rfl) (made8_bad hbad rfl _) ?_
  rintro e w ⟨rfl,hq⟩
  refine⟨_,rfl,?_⟩
  replace hs:=hs.callE hq
  refine wm<|wx rfl rfl<|wx rfl rfl<|wA<|wA<|wZ<|cq<|sr<|wm<|wV (run_not rfl)<|wm<|wy<|wm ?_
  refine wy<|wV (run_nilNil u32 rfl rfl)<|wV (run_pickF rfl)<|wZ<|CW.cond rfl (fun h=>?_) (fun h=>?_)
  ·refine sr<|wm<|ws1 ty4 rfl rfl (rfl) hs (fun w hs=>?_)
   refine wZ<|CW.ret ?_
   exact finM_ret (bs:=[]) (.inl rfl) hs fun a ha w' hs'=>⟨_,res_cell1 ha rfl rfl (run_loadVar1 ty4 (hs'.c0 rfl)),rfl,hs'.clear⟩
  ·cases h
 have ob:∃k:Nat,wd=k:=⟨wd.toNat,by omega⟩
 obtain⟨k,rfl⟩:=ob
 have ob:∃c:Nat,x.cap=c:=⟨x.cap.toNat,by omega⟩
 obtain⟨c,hc⟩:=ob
 refine sr<|WL.box (cs:=x.cells) rfl rfl rfl hs (fun b4 w hs=>?_)
 refine WL.alloc ty4 rfl hs (fun b6 w hs=>?_)
 refine wZ<|cq<|sr<|wE rfl (run_call en15 rfl rfl) (known8_spec _) ?_
 rintro e w ⟨rfl,hq⟩
 refine⟨_,rfl,?_⟩
 replace hs:=hs.callE hq
 refine wV (run_not rfl)<|wZ<|CW.cond rfl (fun h=>?_) (fun h=>?_)
 ·cases h
 refine ck<|sr<|wm<|wV (run_loadN ty28 rfl hcl hs.a1)<|wE rfl (run_call en16 rfl rfl) (made8_spec (by omega) (by omega) (by omega) hc _ (hx.step0 hs.clear)) ?_
 rintro e w ⟨bw,bp,br,rfl,s,roots,vR,LR,L,R,D,hM,few,hsk,hrl⟩
 refine⟨_,rfl,?_⟩
 have hs2:=Step.call0 hs hM.hs
 replace hs:=Step.perm hs2 perm_e1
 refine wm<|wx rfl rfl<|wx rfl rfl<|wA<|wA<|wZ ?_
 have ok:=hM.ok
 refine cq<|sr<|wm<|wV (run_not rfl)<|wm<|wy<|wm<|wy<|wV (run_ptrNil u32 rfl rfl)<|wV (run_pickF rfl)<|wZ<|CW.cond rfl (fun h=>?_) (fun h=>?_)
 ·cases h
 refine ck<|sr<|wA<|wZ<|sr<|wA<|wZ<|sr<|WL.alloc ty35 rfl hs (fun b11 w hs=>?_)
 refine wZ ?_
 replace hs:Step [] (((b11,blk 35 [.slice none 0 0])::(b6,blk 4 [.bool false])::(bw,blk 42 (w8C bp br vR))::(b4,blk 28 x.cells)::(LR++([]++([]++[]))))++(L++(R++D))) w0 w:=Step.perm (show Step [] ((b11,blk 35 [.slice none 0 0])::(b6,blk 4 [.bool false])::(bw,blk 42 (w8C bp br vR))::(b4,blk 28 x.cells)::(LR++(L++(R++D)))) w0 w from hs) perm_e2
 have ob:∃ds,l.map (fun z=>rootF roots s.X z)=ds:=⟨_,rfl⟩
 obtain⟨ds,hds⟩:=ob
 have hdl:ds.length=l.length:=by rw[←hds,length_map]
 have hd32:∀d∈ds,d.length=32:=fun d h=>by
  rw[←hds] at h
  have ob:=mem_map.1 h
  obtain⟨z,_,rfl⟩:=ob
  exact rootF_len hM.r32 ok.len z
 have hroot:∀{w:World}{z:Int}{A B Lc D1:List (Nat×Obj)},-9223372036854775808≤z∧z≤9223372036854775807→Step [] (A++(((bw,blk 42 (w8C bp br vR))::(b4,blk 28 x.cells)::(LR++B))++(Lc++(R++D1)))) w0 w→CP 18 #[.pointer (some ⟨bw,0,none⟩),.int .i64 z] w (Ret0 (.agg (u8s (rootF roots s.X z)).toArray) w):=fun {w z A B Lc D1} hz h=>
  root8_spec (z:=z) (w:=w) (bw:=bw) (bp:=bp) (br:=br) (vR:=vR) (roots:=roots) (At.of_blk (h.has (bw,blk 42 (w8C bp br vR)) (by simp))) (Dgs.own hM.vr (fun p hp=>h.has p (by simp[hp])) hM.r32 (by omega)) hM.rr (fun p hp=>h.has p (by simp[hp])) ok (by omega) hz
 have hal:=fun{w:World}{G:Nat}{D1 D2 L1:List (Nat×Obj)} (hP:PRep bp (s.gotN G) D1 L1) (hsub:∀p∈D,p∈D2) h1 (h2:Lives (R++D2) w)=>alike9_spec (w0:=w) (g0:=s.gets) hP (hM.rr.mono hsub) (ok.gotN G) h1 h2
 refine CW.seqM (fun f w=>∃(i G gw:Nat) (m:List (List UInt8)) (v9 v10 vm:Value) (Lv9 L10 Lm Lc Dc:List (Nat×Obj)) (B:List (Value×List (WI×Value))),i≤l.length∧i≤20∧G≤2621480∧m.length≤1310720∧(∀d∈m,d.length=32)∧sweepW s rmG (ds.take i) 0 []=(0,gw,m)∧OwnSl 44 32 v9 (ds.take i).length (digsL (ds.take i)) Lv9∧OwnSl 65 1 v10 B.length (B.map (·.1)) L10∧OwnSl 44 32 vm m.length (digsL m) Lm∧Trees s (Dc++D) (ds.take i) B∧PRep bp (s.gotN G) (Dc++D) Lc∧Step [] (((b11,blk 35 [vm])::(b6,blk 4 [.bool false])::(bw,blk 42 (w8C bp br vR))::(b4,blk 28 x.cells)::(LR++(Lv9++(L10++Lm))))++(Lc++(R++(Dc++D)))) w0 w∧Holds f [(6,.pointer (some ⟨b6,0,none⟩)),(7,.pointer (some ⟨bw,0,none⟩)),(9,v9),(10,v10),(11,.pointer (some ⟨b11,0,none⟩))]) ?_ ?_
 ·refine sr<|wA<|wZ<|cB<|CW.loop (fun z f w'=>∃(i G:Nat) (m:List (List UInt8)) (v9 v10 vm:Value) (Lv9 L10 Lm Lc Dc:List (Nat×Obj)) (B:List (Value×List (WI×Value))),i≤l.length∧i≤20∧z=20 - i∧G≤131074*i∧m.length≤65536*i∧(∀d∈m,d.length=32)∧(∃g,sweepW s rmG (ds.take i) 0 []=(0,g,m))∧OwnSl 44 32 v9 (ds.take i).length (digsL (ds.take i)) Lv9∧OwnSl 65 1 v10 B.length (B.map (·.1)) L10∧OwnSl 44 32 vm m.length (digsL m) Lm∧Trees s (Dc++D) (ds.take i) B∧PRep bp (s.gotN G) (Dc++D) Lc∧Step [] (((b11,blk 35 [vm])::(b6,blk 4 [.bool false])::(bw,blk 42 (w8C bp br vR))::(b4,blk 28 x.cells)::(LR++(Lv9++(L10++Lm))))++(Lc++(R++(Dc++D)))) w0 w'∧Holds f [(2,.slice va l.length vc),(6,.pointer (some ⟨b6,0,none⟩)),(7,.pointer (some ⟨bw,0,none⟩)),(9,v9),(10,v10),(11,.pointer (some ⟨b11,0,none⟩)),(12,.int .i64 (i:Nat))]) (m:=20) ?_ ?_
  ·exact⟨0,0,[],_,_,_,[],[],[],L,[],[],Nat.zero_le _,Nat.zero_le _,rfl,Nat.zero_le _,Nat.zero_le _,(fun d hd=>by cases hd),⟨0,rfl⟩,OwnSl.nil _ _,OwnSl.nil _ _,OwnSl.nil _ _,⟨rfl,fun j t d h=>by cases h⟩,hM.pr,hs,rfl,rfl,rfl,rfl,rfl,rfl,rfl,trivial⟩
  clear hs hs2
  rintro zz f w ⟨i,G,m,v9,v10,vm,Lv9,L10,Lm,Lc,Dc,B,hi,hi20,rfl,hGi,hml,hm32,⟨gw,hSW⟩,hv9,hv10,hvm,hTr,hP,hs,hf⟩
  have htl:(ds.take i).length=i:=by rw[length_take];omega
  have hBl:=hTr.1
  rw[htl] at hBl
  have htk32:∀{n:Nat},∀d∈ds.take n,d.length=32:=fun d h=>hd32 d (mem_of_mem_take h)
  by_cases hlt:i<l.length∧i<20
  ·obtain⟨hl1,hl20⟩:=hlt
   have ob:∃z,l[i]?=some z:=⟨_,getElem?_eq_getElem hl1⟩
   obtain⟨z,hz⟩:=ob
   have hzr:=hl.rng z (mem_of_getElem? hz)
   have hdi:ds[i]?=some (rootF roots s.X z):=by rw[←hds,getElem?_map,hz];rfl
   have ob:=sl_at1 (c:=fun z:Int=>Value.int .i64 z) hl.sl hz
   obtain⟨bb,bo,bc,hbe,hbc⟩:=ob
   rw[hbe] at hf
   have ob:=hf.chain
   obtain⟨g,rfl⟩:=ob
   have hrt:=fun{w:World}{A B Lc D1:List (Nat×Obj)} h=>hroot (w:=w) (A:=A) (B:=B) (Lc:=Lc) (D1:=D1) hzr h
   have hd32':(rootF roots s.X z).length=32:=rootF_len hM.r32 ok.len z
   have ob:∃d,rootF roots s.X z=d:=⟨_,rfl⟩
   obtain⟨d,hdE⟩:=ob
   rw[hdE] at hdi hd32'
   simp only[hdE] at hrt
   have hzl:(u8s d).length=32:=by rw[u8s,length_map,hd32']
   have htk:ds.take (i+1)=ds.take i++[d]:=by rw[take_add_one,hdi];rfl
   have htl1:(ds.take (i+1)).length=i+1:=by rw[htk,length_append,htl];rfl
   have hload:=fun{w1:World} h=>load_spec (w0:=w1) (rn:=65536) (rd:=32) (rb:=67108864) hP (ok.gotN G) (few.gotN G) (by omega) hd32' rmG_ok h
   have hreach:=fun{w1:World}{G1:Nat}{D1 L1:List (Nat×Obj)} (hG1:G1≤10000000) (hp:PRep bp (s.gotN G1) D1 L1) h=>reach_spec (w0:=w1) (rn:=65536) (rd:=32) (rb:=67108864) hp (ok.gotN G1) (few.gotN G1) (by omega) hd32' rmG_ok h
   have hrg:=runs_g (s:=s) rmG_ok d
   have ob:=runs_wkd (s:=s) (rn:=65536) (rd:=32) (rb:=67108864) hd32' rmG_ok
   obtain⟨_,_,_,Wk,_⟩:=ob
   have hsn:=sweepW_snoc (s:=s) (rm:=rmG) (l:=ds.take i) (d:=d) (g:=0) (m:=[]) (by rw[hSW])
   rw[hSW,←htk] at hsn
   have hlen0:=bounds_len (s:=s) (d:=d)
   have ob:∃r,runs s rmG [rootS d] ws0=r:=⟨_,rfl⟩
   obtain⟨r,hr⟩:=ob
   have hr':runs s (rmOf 65536 32 67108864) [rootS d] ws0=r:=hr
   rw[hr'] at Wk
   rw[hr] at hrg hsn
   simp only[runs_gotN,hr',gotN_add] at hload hreach
   refine cq<|sr<|wm<|wm<|wV (run_lenSl u25 rfl)<|wV (run_bT (run_lss rfl rfl) (by omega))<|wm<|wy<|wm<|wy<|wV (run_bT (run_lss rfl rfl) (by omega))<|wV (run_pickT rfl)<|wZ ?_
   refine CW.cond rfl (fun h=>?_) (fun h=>?_)
   ·refine ck<|cq<|cB<|sr<|wm<|wm<|wm<|wm<|wV (run_ixSlN u25 ty3 rfl rfl (by omega))<|wl ty3 rfl (keepCell hbc hs.clear)<|wE rfl (run_call en18 rfl rfl) (hrt (A:=[_,_]) hs) ?_
    rintro e w ⟨rfl,hq⟩
    refine⟨_,rfl,?_⟩
    replace hs:=hs.callE hq
    refine WL.buildSlice (cs:=u8s d) u35 ty44 rfl (by decide) rfl (filled1 hzl rfl) rfl hs (fun b61 w hs=>?_)
    have hsl61:Sl w 32 (.slice (some ⟨b61,0,none⟩) 1 1) 1 (u8s d):=.own1 hs (by rw[hzl])
    replace hs:=Step.perm hs.tail perm_e3
    refine WL.append u35 u35 ty44 rfl (by decide) rfl rfl (hv9) (hs) (hsl61) (Cells1.u8s _) (by omega) rfl (fun v62 Lv62 w hv62 hs=>?_)
    replace hs:=Step.perm hs perm_e3.symm
    refine wA<|wZ ?_
    have hv9':OwnSl 44 32 v62 (ds.take (i+1)).length (digsL (ds.take (i+1))) Lv62:=by rw[htk,length_append,digsL_snoc];exact hv62
    have ob:=hv9'.some1 (by omega)
    obtain⟨bu,cu,more,hu1,hu2,hu3⟩:=ob
    rw[htl1] at hu1
    subst hu1
    have hbu:(bu,blk 44 (digsL (ds.take (i+1))++more))∈Lv62:=by rw[hu2];exact mem_singleton.2 rfl
    have hxat:∀{w:World},w.heap[bu]?=some (blk 44 (digsL (ds.take (i+1))++more))→At w bu (0+i*32) (u8s d):=fun h=>digsL_at htk32 (At.of_blk h).left (by rw[htk,getElem?_append_right (by omega),htl,Nat.sub_self];rfl)
    refine cq<|CW.any (A:=fun w=>w.heap[bw]?=some (blk 42 (w8C bp br vR))∧w.heap[bu]?=some (blk 44 (digsL (ds.take (i+1))++more))) (C:=fun w=>w.heap[bw]?=some (blk 42 (w8C bp br vR))∧w.heap[bu]?=some (blk 44 (digsL (ds.take (i+1))++more))) 1000000 15 mixedP rfl ?_
    replace hs:=hs.drew
    refine aM 0 rfl<|aV 1 rfl (fun w hs=>run_nilCheck rfl)<|aV 2 rfl (fun w hs=>run_field (o':=0) u42 rfl ty39 rfl rfl rfl)<|aV 3 rfl (fun w hs=>run_load1 ty39 rfl ((At.of_blk hs.1).cell (j:=0) rfl))<|aM 4 rfl<|aM 5 rfl<|aV 6 rfl (fun w hs=>run_ixSlN u35 ty44 rfl rfl (by omega))<|aV 7 rfl (fun w hs=>run_loadN ty44 rfl hzl (hxat hs.2))<|AL.one 8 (by kernel_rfl) rfl (⟨hs.has (bw,blk 42 (w8C bp br vR)) (by simp),hs.has (bu,blk 44 (digsL (ds.take (i+1))++more)) (by simp[hbu])⟩) (⟨hs.has (bw,blk 42 (w8C bp br vR)) (by simp),hs.has (bu,blk 44 (digsL (ds.take (i+1))++more)) (by simp[hbu])⟩) ?_
    refine wE rfl (run_call en28 rfl rfl) (great_spec _) ?_
    rintro e w ⟨rfl,hq⟩
    refine⟨_,rfl,?_⟩
    replace hs:=hs.callE hq
    refine wZ<|⟨rfl,?_⟩
    refine AL.one 9 (by kernel_rfl) rfl (⟨hs.has (bw,blk 42 (w8C bp br vR)) (by simp),hs.has (bu,blk 44 (digsL (ds.take (i+1))++more)) (by simp[hbu])⟩) (⟨hs.has (bw,blk 42 (w8C bp br vR)) (by simp),hs.has (bu,blk 44 (digsL (ds.take (i+1))++more)) (by simp[hbu])⟩) ?_
    refine wE rfl (run_call en27 rfl rfl) (hload (Two.live (A:=_::_::_::_::(LR++(Lv62++(L10++Lm)))) hs)) ?_
    rintro e w ⟨vl,T,Lt,L1,D1,rfl,hP1,hOl,hTl,hTn,hTD,hq1⟩
    refine⟨_,rfl,?_⟩
    replace hs:=Two.put (A:=_::_::_::_::(LR++(Lv62++(L10++Lm)))) hs hq1
    refine wZ<|⟨rfl,?_⟩
    refine aM 10 rfl<|aV 11 rfl (fun w hs=>run_extract rfl rfl)<|aV 12 rfl (fun w hs=>run_extract rfl rfl)<|aV 13 rfl (fun w hs=>run_assign)<|aV 14 rfl (fun w hs=>run_assign)<|AL.end (by kernel_rfl) (⟨hs.has (bw,blk 42 (w8C bp br vR)) (by simp),hs.has (bu,blk 44 (digsL (ds.take (i+1))++more)) (by simp[hbu])⟩) (⟨hs.has (bw,blk 42 (w8C bp br vR)) (by simp),hs.has (bu,blk 44 (digsL (ds.take (i+1))++more)) (by simp[hbu])⟩) ?_
    have hP1':PRep bp (s.gotN (G+r.2.g)) ((Lt++D1)++(Dc++D)) L1:=hP1.mono fun p hp=>by
     simp only[mem_append] at hp⊢
     rcases hp with hp | hp | hp <;> simp[hp]
    have ob:=hOl.form
    obtain⟨la,lc,rfl⟩:=ob
    refine cq<|CW.any (A:=fun w=>w.heap[bw]?=some (blk 42 (w8C bp br vR))∧w.heap[bu]?=some (blk 44 (digsL (ds.take (i+1))++more))) (C:=fun w=>w.heap[bw]?=some (blk 42 (w8C bp br vR))∧w.heap[bu]?=some (blk 44 (digsL (ds.take (i+1))++more))) 1000000 15 mixedP rfl ?_
    replace hs:=hs.drew
    refine aM 0 rfl<|aV 1 rfl (fun w hs=>run_nilCheck rfl)<|aV 2 rfl (fun w hs=>run_field (o':=0) u42 rfl ty39 rfl rfl rfl)<|aV 3 rfl (fun w hs=>run_load1 ty39 rfl ((At.of_blk hs.1).cell (j:=0) rfl))<|aM 4 rfl<|aM 5 rfl<|aV 6 rfl (fun w hs=>run_ixSlN u35 ty44 rfl rfl (by omega))<|aV 7 rfl (fun w hs=>run_loadN ty44 rfl hzl (hxat hs.2))<|AL.one 8 (by kernel_rfl) rfl (⟨hs.has (bw,blk 42 (w8C bp br vR)) (by simp),hs.has (bu,blk 44 (digsL (ds.take (i+1))++more)) (by simp[hbu])⟩) (⟨hs.has (bw,blk 42 (w8C bp br vR)) (by simp),hs.has (bu,blk 44 (digsL (ds.take (i+1))++more)) (by simp[hbu])⟩) ?_
    refine wE rfl (run_call en28 rfl rfl) (great_spec _) ?_
    rintro e w ⟨rfl,hq⟩
    refine⟨_,rfl,?_⟩
    replace hs:=hs.callE hq
    refine wZ<|⟨rfl,?_⟩
    refine AL.one 9 (by kernel_rfl) rfl (⟨hs.has (bw,blk 42 (w8C bp br vR)) (by simp),hs.has (bu,blk 44 (digsL (ds.take (i+1))++more)) (by simp[hbu])⟩) (⟨hs.has (bw,blk 42 (w8C bp br vR)) (by simp),hs.has (bu,blk 44 (digsL (ds.take (i+1))++more)) (by simp[hbu])⟩) ?_
    refine wE rfl (run_call en17 rfl rfl) (hreach (by omega) hP1' (Two.live (A:=_::_::_::_::(LR++(Lv62++(L10++Lm)))) hs)) ?_
    rintro e w ⟨vr,Lr,L2,D2,rfl,hP2,hvr,hq2⟩
    refine⟨_,rfl,?_⟩
    replace hs:=Two.put (A:=_::_::_::_::(LR++(Lv62++(L10++Lm)))) hs hq2
    refine wZ<|⟨rfl,?_⟩
    refine aM 10 rfl<|aV 11 rfl (fun w hs=>run_extract rfl rfl)<|aV 12 rfl (fun w hs=>run_extract rfl rfl)<|aV 13 rfl (fun w hs=>run_assign)<|aV 14 rfl (fun w hs=>run_assign)<|AL.end (by kernel_rfl) (⟨hs.has (bw,blk 42 (w8C bp br vR)) (by simp),hs.has (bu,blk 44 (digsL (ds.take (i+1))++more)) (by simp[hbu])⟩) (⟨hs.has (bw,blk 42 (w8C bp br vR)) (by simp),hs.has (bu,blk 44 (digsL (ds.take (i+1))++more)) (by simp[hbu])⟩) ?_
    have hDn:∀p∈D2++((Lt++D1)++(Dc++D)),p∈((Lr++D2)++((Lt++D1)++Dc))++D:=fun p hp=>by
     simp only[mem_append] at hp⊢
     rcases hp with hp | (hp | hp) | hp | hp <;> simp[hp]
    have hP3:PRep bp (s.gotN (G+r.2.g+r.2.g)) (((Lr++D2)++((Lt++D1)++Dc))++D) L2:=hP2.mono hDn
    replace hs:Step [] (((b11,blk 35 [vm])::(b6,blk 4 [.bool false])::(bw,blk 42 (w8C bp br vR))::(b4,blk 28 x.cells)::(LR++(Lv62++(L10++Lm))))++(L2++(R++(((Lr++D2)++((Lt++D1)++Dc))++D)))) w0 w:=by
     have h:=hs
     simp only[append_assoc,cons_append] at h⊢
     exact h
    by_cases he:r.1≠0
    ·rw[if_pos he] at hsn
     have hss:sweepR (s.gotN (G+r.2.g+r.2.g)) (rmOf 65536 32 67108864) (ds.take (i+1))=(0,r.1,s.gotN (G+r.2.g+r.2.g+(gw+r.2.g))):=by
      have h:=sweep_stop (s:=s) (rm:=rmG) (l:=ds.take (i+1)) (G:=G+r.2.g+r.2.g) (by omega) (by rw[hsn];exact he)
      rw[hsn] at h
      exact h
     refine cq<|sr<|wm<|wm<|wV (run_bF (run_neq rfl rfl) (by exact fun h=>h rfl))<|wZ<|CW.cond rfl (fun h=>?_) (fun h=>?_)
     ·cases h
     replace hs:=Step.perm hs perm_e6
     have hsw:=fun{w1:World} h=>sweep_spec (w0:=w1) (rn:=65536) (rd:=32) (rb:=67108864) (hP3.mono (D':=Lv62++(((Lr++D2)++((Lt++D1)++Dc))++D)) mem_right) (ok.gotN _) (few.gotN _) (by omega) hv9' (fun p hp=>mem_append_left _ hp) htk32 (by omega) rmG_ok h
     simp only[hss] at hsw
     refine ck<|cq<|sr<|wm<|wV (run_bT (run_neq rfl rfl) (by exact he))<|wZ<|CW.cond rfl (fun h=>?_) (fun h=>?_)
     ·skip
      refine cq<|CW.any (A:=fun w=>w.heap[bw]?=some (blk 42 (w8C bp br vR))) (C:=fun w=>w.heap[bw]?=some (blk 42 (w8C bp br vR))) 1000000 12 mixedP rfl ?_
      replace hs:=hs.drew
      refine aM 0 rfl<|aV 1 rfl (fun w hs=>run_nilCheck rfl)<|aV 2 rfl (fun w hs=>run_field (o':=0) u42 rfl ty39 rfl rfl rfl)<|aV 3 rfl (fun w hs=>run_load1 ty39 rfl ((At.of_blk hs).cell (j:=0) rfl))<|aM 4 rfl<|AL.one 5 (by kernel_rfl) rfl (hs.has (bw,blk 42 (w8C bp br vR)) (by simp)) (hs.has (bw,blk 42 (w8C bp br vR)) (by simp)) ?_
      refine wE rfl (run_call en28 rfl rfl) (great_spec _) ?_
      rintro e w ⟨rfl,hq⟩
      refine⟨_,rfl,?_⟩
      replace hs:=hs.callE hq
      refine wZ<|⟨rfl,?_⟩
      refine AL.one 6 (by kernel_rfl) rfl (hs.has (bw,blk 42 (w8C bp br vR)) (by simp)) (hs.has (bw,blk 42 (w8C bp br vR)) (by simp)) ?_
      refine wE rfl (run_call en23 rfl rfl) (hsw (Two.live (A:=_::_::_::_::(LR++([]++(L10++Lm)))) hs)) ?_
      rintro e w ⟨L3,D3,rfl,hP4,hq3⟩
      refine⟨_,rfl,?_⟩
      replace hs:=Two.put (A:=_::_::_::_::(LR++([]++(L10++Lm)))) hs hq3
      refine wZ<|⟨rfl,?_⟩
      refine aM 7 rfl<|aV 8 rfl (fun w hs=>run_extract rfl rfl)<|aV 9 rfl (fun w hs=>run_extract rfl rfl)<|aV 10 rfl (fun w hs=>run_assign)<|aV 11 rfl (fun w hs=>run_assign)<|AL.end (by kernel_rfl) (hs.has (bw,blk 42 (w8C bp br vR)) (by simp)) (hs.has (bw,blk 42 (w8C bp br vR)) (by simp)) ?_
      refine cq<|CW.quietT (l1:=[_,_,_,_,_,_,_,_,_,_,_,_,_,_,_,_,_,_]) (l2:=[_]) 18 rfl mixedP rfl (by kernel_rfl) hs ?_
      refine qm<|qV (fun w hs=>run_bT (run_eql rfl rfl) (by rfl))<|qm<|qy<|qm<|qy<|qm<|qy<|qV (fun w hs=>run_bT (run_eql rfl rfl) (by rfl))<|qV (fun w hs=>run_pickT rfl)<|qm<|qy<|qm<|qy<|qn rfl ?_
      refine qy<|qF 0 u42 rfl ty39 rfl<|qy<|qV (fun w hs=>run_load1 ty39 rfl (hs.c2 rfl))<|qy<|qm<|qy<|qn rfl<|qy<|qF 1 u42 rfl ty40 rfl<|qy<|qV (fun w hs=>run_load1 ty40 rfl (hs.c2 rfl))<|qy<|QL.enter rfl (fun w=>run_call en22 rfl rfl) (fun w hs=>hal hP4 (fun p hp=>by simp[hp]) (Two.live (A:=_::_::_::_::(LR++([]++(L10++Lm)))) hs) (Two.rlive (A:=_::_::_::_::(LR++([]++(L10++Lm)))) hs)) ?_
      refine qV (fun w hs=>run_pickT rfl)<|QL.nil (fun w hs=>?_)
      refine WL.store1_1 ty4 rfl rfl (rfl) hs (by first | (simp;done) | omega | (simp only[length_append,length_replicate,length_cons,length_nil,length_set];omega) | (simp[Ent.cells,u8s];done) | exact Nat.le_of_ble_eq_true rfl) (fun w hs=>?_)
      refine wZ<|CW.ret ?_
      exact finM_ret (bs:=[]) (.inl rfl) hs fun a ha w' hs'=>⟨_,res_cell1 ha rfl rfl (run_loadVar1 ty4 (hs'.c1 rfl)),rfl,hs'.clear⟩
     ·cases h
    have he0:r.1=0:=by simpa using he
    rw[if_neg he] at hsn
    have hTm:=hTl he0
    have hrl:reachL r=ordM r.2.m:=if_pos he0
    rw[hrl] at hvr
    have hol:(ordM r.2.m).length≤65536:=Nat.le_trans (ordM_len _) (Wk.len he0)
    have hTr2:Trees s (((Lr++D2)++((Lt++D1)++Dc))++D) (ds.take (i+1)) (B++[(.slice la T.length lc,T)]):=by
     rw[htk]
     refine(hTr.mono fun p hp=>?_).add (by rw[hr];exact hTm) ⟨⟨Lt,hOl,fun p hp=>?_⟩,fun u hu=>(hTD u hu).mono fun p hp=>?_⟩
     ·simp only[mem_append] at hp⊢
      rcases hp with hp | hp <;> simp[hp]
     ·simp[hp]
     ·simp only[mem_append] at hp⊢
      rcases hp with hp | hp | hp <;> simp[hp]
    refine cq<|sr<|wm<|wm<|wV (run_bF (run_neq rfl rfl) (by exact fun h=>h rfl))<|wZ<|CW.cond rfl (fun h=>?_) (fun h=>?_)
    ·cases h
    refine ck<|cq<|sr<|wm<|wV (run_bF (run_neq rfl rfl) (by exact fun h=>h he0))<|wZ<|CW.cond rfl (fun h=>?_) (fun h=>?_)
    ·cases h
    refine ck<|sr<|wm<|wm<|WL.buildSlice (cs:=[.slice la T.length lc]) u22 ty65 rfl (by decide) rfl (filled1 rfl rfl) rfl hs (fun b124 w hs=>?_)
    have hsl124:Sl w 1 (.slice (some ⟨b124,0,none⟩) 1 1) 1 [.slice la T.length lc]:=.own1 hs rfl
    replace hs:=Step.perm hs.tail perm_e4
    refine WL.append u22 u22 ty65 rfl (by decide) rfl rfl (hv10) (hs) (hsl124) (Cells1.of_all rfl) (by omega) rfl (fun v125 Lv125 w hv125 hs=>?_)
    replace hs:=Step.perm hs perm_e4.symm
    refine wA<|wZ ?_
    have hsr:Sl w 32 vr (ordM r.2.m).length (digsL (ordM r.2.m)):=hvr.slH fun p hp=>hs.has p (by simp[hp])
    refine cr<|wl ty35 rfl (hs.c0 (v:=vm) rfl) ?_
    replace hs:=Step.perm hs perm_e5
    refine wm<|WL.append u35 u35 ty44 rfl (by decide) rfl rfl (hvm) (hs) (hsr) ((digsL_c1 _)) (by omega) rfl (fun v128 Lv128 w hv128 hs=>?_)
    replace hs:=Step.perm hs perm_e5.symm
    refine ws1 ty35 rfl rfl (hv128.one) hs (fun w hs=>?_)
    refine wZ<|cr<|wm<|wV (run_add (c:=((i+1:Nat):Int)) rfl rfl (by omega) (by omega))<|wA<|wZ<|(show _∧_ from⟨rfl,_,?_,i+1,G+r.2.g+r.2.g,m++ordM r.2.m,.slice (some ⟨bu,0,none⟩) (i+1) cu,v125,v128,Lv62,Lv125,Lv128,L2,(Lr++D2)++((Lt++D1)++Dc),B++[(.slice la T.length lc,T)],hl1,hl20,rfl,?_,?_,?_,⟨_,hsn⟩,hv9',?_,?_,hTr2,hP3,hs,hbe.symm,rfl,rfl,rfl,rfl,rfl,rfl,trivial⟩)
    ·omega
    ·omega
    ·rw[length_append];omega
    ·intro e hm
     rcases mem_append.1 hm with hm | hm
     ·exact hm32 e hm
     ·exact(Wk.met he0).len e hm
    ·rw[length_append,map_append];exact hv125
    ·rw[length_append,digsL_append];exact hv128
   ·cases h
  ·have ob:=hf.chain
   obtain⟨g,rfl⟩:=ob
   have hfin:Step [] (((b11,blk 35 [vm])::(b6,blk 4 [.bool false])::(bw,blk 42 (w8C bp br vR))::(b4,blk 28 x.cells)::(LR++(Lv9++(L10++Lm))))++(Lc++(R++(Dc++D)))) w0 w→True:=fun _=>trivial
   by_cases hl1:i<l.length
   ·refine cq<|sr<|wm<|wm<|wV (run_lenSl u25 rfl)<|wV (run_bT (run_lss rfl rfl) (by omega))<|wm<|wy<|wm<|wy<|wV (run_bF (run_lss rfl rfl) (by omega))<|wV (run_pickT rfl)<|wZ ?_
    refine CW.cond rfl (fun h=>?_) (fun h=>?_)
    ·cases h
    refine CW.exit ?_
    exact⟨rfl,i,G,gw,m,v9,v10,vm,Lv9,L10,Lm,Lc,Dc,B,hi,hi20,by omega,by omega,hm32,hSW,hv9,hv10,hvm,hTr,hP,hs,rfl,rfl,rfl,rfl,rfl,trivial⟩
   ·refine cq<|sr<|wm<|wm<|wV (run_lenSl u25 rfl)<|wV (run_bF (run_lss rfl rfl) (by omega))<|wm<|wz<|wz<|wV (run_pickF rfl)<|wZ<|CW.cond rfl (fun h=>?_) (fun h=>?_)
    ·cases h
    refine CW.exit ?_
    exact⟨rfl,i,G,gw,m,v9,v10,vm,Lv9,L10,Lm,Lc,Dc,B,hi,hi20,by omega,by omega,hm32,hSW,hv9,hv10,hvm,hTr,hP,hs,rfl,rfl,rfl,rfl,rfl,trivial⟩
 clear hs hs2
 rintro f w ⟨i,G,gw,m,v9,v10,vm,Lv9,L10,Lm,Lc,Dc,B,hi,hi20,hGi,hml,hm32,hSW,hv9,hv10,hvm,hTr,hP,hs,hf⟩
 have htl:(ds.take i).length=i:=by rw[length_take];omega
 have htk32:∀d∈ds.take i,d.length=32:=fun d h=>hd32 d (mem_of_mem_take h)
 have hBl:=hTr.1
 rw[htl] at hBl
 have hul:=used_len s.X
 have hou:=ok.used
 have ob:=hv9.form
 obtain⟨ra9,rc9,rfl⟩:=ob
 have ob:=hf.chain
 obtain⟨g,rfl⟩:=ob
 have hgw:=sweepW_g (s:=s) rmG_ok (ds.take i) 0 []
 rw[hSW,htl] at hgw
 replace hgw:gw≤1310740:=by
  have h:gw≤0+65537*i:=hgw
  omega
 have hsf:=sweep_first (s:=s) (rm:=rmG) (l:=ds.take i) (G:=G) (by omega) (by rw[hSW])
 have hsa:=sweep_again (s:=s) (rm:=rmG) (l:=ds.take i) (G:=G+gw) (by omega) (by rw[hSW])
 have hsr:=swept_runs (s:=s) (rm:=rmG) (l:=ds.take i) (G:=G+gw) (by rw[hSW])
 have hok:=(sweepW_ok (s:=s) (rm:=rmG) (l:=ds.take i) (g:=0) (m:=[]) (by rw[hSW])).1
 have hll:=left_len (s:=s.gotN (G+gw)) (m:=m)
 have hlm:=left_met (s:=s.gotN (G+gw)) (m:=m)
 rw[hSW] at hsf hsa hsr
 simp only at hsf hsa hsr
 have ob:∃gone,goneL m (s.X.map (·.d))=gone:=⟨_,rfl⟩
 obtain⟨gone,hgone⟩:=ob
 have hll:(evAll (s.gotN (G+gw)) (goneL m (s.X.map (·.d)))).X.length+(goneL m (s.X.map (·.d))).length=s.X.length:=hll
 have hlm:∀b∈(evAll (s.gotN (G+gw)) (goneL m (s.X.map (·.d)))).X,b.d∈m:=hlm
 rw[hgone] at hsf hsa hsr hll hlm
 have ok1:(evAll (s.gotN (G+gw)) gone).Ok:=evAll_ok (ok.gotN _)
 have few1:(evAll (s.gotN (G+gw)) gone).Few (100000000+(G+gw)):=evAll_few (few.gotN _)
 have ob:∃s1,evAll (s.gotN (G+gw)) gone=s1:=⟨_,rfl⟩
 obtain⟨s1,hs1⟩:=ob
 rw[hs1] at hsf hsa hsr hll hlm ok1 few1
 have hsf':sweepR (s.gotN G) (rmOf 65536 32 67108864) (ds.take i)=(gone.length,0,s1):=hsf
 have hsa':sweepR s1 (rmOf 65536 32 67108864) (ds.take i)=(0,0,s1.gotN gw):=hsa
 replace hs:=Step.perm hs perm_e6
 have ob:∃D0,Lv9++(Dc++D)=D0:=⟨_,rfl⟩
 obtain⟨D0,hD0⟩:=ob
 have h9D:∀p∈Lv9,p∈D0:=fun p hp=>hD0▸mem_append_left _ hp
 have hTr0:Trees s D0 (ds.take i) B:=hTr.mono fun p hp=>hD0▸mem_append_right _ hp
 have hP0:PRep bp (s.gotN G) D0 Lc:=hP.mono fun p hp=>hD0▸mem_append_right _ hp
 rw[hD0] at hs
 have hsw1:=fun{w1:World} h=>sweep_spec (w0:=w1) (rn:=65536) (rd:=32) (rb:=67108864) hP0 (ok.gotN _) (few.gotN _) (by omega) hv9 h9D htk32 (by omega) rmG_ok h
 have hsw2:=fun{w1:World}{D1 L1:List (Nat×Obj)} (hp:PRep bp s1 (D1++D0) L1) h=>sweep_spec (w0:=w1) (rn:=65536) (rd:=32) (rb:=67108864) hp ok1 few1 (by omega) hv9 (fun p hp=>mem_append_right _ (h9D p hp)) htk32 (by omega) rmG_ok h
 simp only[hsf'] at hsw1
 simp only[hsa'] at hsw2
 rw[htl] at *
 have hlen1:=fun{w1:World} (h:Lives (Lc++D0) w1)=>(show CP 29 #[.pointer (some ⟨bp,0,none⟩)] w1 (Ret0 (.int .i64 (s.X.length:Nat)) w1) from len_abs (s:=s.gotN G) (w0:=w1) hP0 (ok.gotN G) h)
 refine sr<|wm<|wn rfl<|wF 0 u42 rfl ty39 rfl<|wl ty39 rfl (hs.c2 rfl)<|wE rfl (run_call en29 rfl rfl) (hlen1 (Two.live (A:=_::_::_::_::(LR++([]++(L10++Lm)))) hs)) ?_
 rintro e w ⟨rfl,hq⟩
 refine⟨_,rfl,?_⟩
 replace hs:=hs.callE hq
 refine wA<|wZ<|cq<|CW.any (A:=fun w=>w.heap[bw]?=some (blk 42 (w8C bp br vR))) (C:=fun w=>w.heap[bw]?=some (blk 42 (w8C bp br vR))) 1000000 12 mixedP rfl ?_
 replace hs:=hs.drew
 refine aM 0 rfl<|aV 1 rfl (fun w hs=>run_nilCheck rfl)<|aV 2 rfl (fun w hs=>run_field (o':=0) u42 rfl ty39 rfl rfl rfl)<|aV 3 rfl (fun w hs=>run_load1 ty39 rfl ((At.of_blk hs).cell (j:=0) rfl))<|aM 4 rfl<|AL.one 5 (by kernel_rfl) rfl (hs.has (bw,blk 42 (w8C bp br vR)) (by simp)) (hs.has (bw,blk 42 (w8C bp br vR)) (by simp)) ?_
 refine wE rfl (run_call en28 rfl rfl) (great_spec _) ?_
 rintro e w ⟨rfl,hq⟩
 refine⟨_,rfl,?_⟩
 replace hs:=hs.callE hq
 refine wZ<|⟨rfl,?_⟩
 refine AL.one 6 (by kernel_rfl) rfl (hs.has (bw,blk 42 (w8C bp br vR)) (by simp)) (hs.has (bw,blk 42 (w8C bp br vR)) (by simp)) ?_
 refine wE rfl (run_call en23 rfl rfl) (hsw1 (Two.live (A:=_::_::_::_::(LR++([]++(L10++Lm)))) hs)) ?_
 rintro e w ⟨L1,D1,rfl,hP1,hq1⟩
 refine⟨_,rfl,?_⟩
 replace hs:=Two.put (A:=_::_::_::_::(LR++([]++(L10++Lm)))) hs hq1
 refine wZ<|⟨rfl,?_⟩
 refine aM 7 rfl<|aV 8 rfl (fun w hs=>run_extract rfl rfl)<|aV 9 rfl (fun w hs=>run_extract rfl rfl)<|aV 10 rfl (fun w hs=>run_assign)<|aV 11 rfl (fun w hs=>run_assign)<|AL.end (by kernel_rfl) (hs.has (bw,blk 42 (w8C bp br vR)) (by simp)) (hs.has (bw,blk 42 (w8C bp br vR)) (by simp)) ?_
 refine cq<|CW.any (A:=fun w=>w.heap[bw]?=some (blk 42 (w8C bp br vR))) (C:=fun w=>w.heap[bw]?=some (blk 42 (w8C bp br vR))) 1000000 12 mixedP rfl ?_
 replace hs:=hs.drew
 refine aM 0 rfl<|aV 1 rfl (fun w hs=>run_nilCheck rfl)<|aV 2 rfl (fun w hs=>run_field (o':=0) u42 rfl ty39 rfl rfl rfl)<|aV 3 rfl (fun w hs=>run_load1 ty39 rfl ((At.of_blk hs).cell (j:=0) rfl))<|aM 4 rfl<|AL.one 5 (by kernel_rfl) rfl (hs.has (bw,blk 42 (w8C bp br vR)) (by simp)) (hs.has (bw,blk 42 (w8C bp br vR)) (by simp)) ?_
 refine wE rfl (run_call en28 rfl rfl) (great_spec _) ?_
 rintro e w ⟨rfl,hq⟩
 refine⟨_,rfl,?_⟩
 replace hs:=hs.callE hq
 refine wZ<|⟨rfl,?_⟩
 refine AL.one 6 (by kernel_rfl) rfl (hs.has (bw,blk 42 (w8C bp br vR)) (by simp)) (hs.has (bw,blk 42 (w8C bp br vR)) (by simp)) ?_
 refine wE rfl (run_call en23 rfl rfl) (hsw2 hP1 (Two.live (A:=_::_::_::_::(LR++([]++(L10++Lm)))) hs)) ?_
 rintro e w ⟨L2,D2,rfl,hP2,hq2⟩
 refine⟨_,rfl,?_⟩
 replace hs:=Two.put (A:=_::_::_::_::(LR++([]++(L10++Lm)))) hs hq2
 refine wZ<|⟨rfl,?_⟩
 refine aM 7 rfl<|aV 8 rfl (fun w hs=>run_extract rfl rfl)<|aV 9 rfl (fun w hs=>run_extract rfl rfl)<|aV 10 rfl (fun w hs=>run_assign)<|aV 11 rfl (fun w hs=>run_assign)<|AL.end (by kernel_rfl) (hs.has (bw,blk 42 (w8C bp br vR)) (by simp)) (hs.has (bw,blk 42 (w8C bp br vR)) (by simp)) ?_
 have hlen2:=fun{w1:World} h=>len_abs (w0:=w1) hP2 (ok1.gotN gw) h
 have hll2:(s1.gotN gw).X.length+gone.length=s.X.length:=hll
 refine cq<|sr<|wm<|wV (run_bF (run_neq rfl rfl) (by exact fun h=>h rfl))<|wm<|wy<|wm<|wy<|wV (run_bF (run_neq rfl rfl) (by exact fun h=>h rfl))<|wV (run_pickF rfl)<|wm<|wy<|wm ?_
 refine wy<|wV (run_bF (run_neq rfl rfl) (by exact fun h=>h rfl))<|wV (run_pickF rfl)<|wm<|wy<|wm<|wy<|wn rfl<|wy<|wF 0 u42 rfl ty39 rfl<|wy<|wl ty39 rfl (hs.c2 rfl)<|wy<|wE rfl (run_call en29 rfl rfl) (hlen2 (Two.live (A:=_::_::_::_::(LR++([]++(L10++Lm)))) hs)) ?_
 rintro e w ⟨rfl,hq⟩
 refine⟨_,rfl,?_⟩
 replace hs:=hs.callE hq
 refine wy<|wm<|wy<|wm<|wy<|wV (run_sub (c:=(((s1.gotN gw).X.length:Nat):Int)) rfl rfl (by omega) (by omega))<|wy<|wV (run_bF (run_neq rfl rfl) (by exact fun h=>h rfl))<|wV (run_pickF rfl)<|wZ<|CW.cond rfl (fun h=>?_) (fun h=>?_)
 ·cases h
 replace hs:Step [] (((b11,blk 35 [vm])::(b6,blk 4 [.bool false])::(bw,blk 42 (w8C bp br vR))::(b4,blk 28 x.cells)::(LR++([]++(L10++Lm))))++(L2++(R++((D2++D1)++D0)))) w0 w:=by rw[append_assoc];exact hs
 have hP2':PRep bp (s1.gotN gw) ((D2++D1)++D0) L2:=by rw[append_assoc];exact hP2
 clear hP2 hP1
 refine ck<|cq<|sr<|wA<|wZ<|cB<|CW.loop (fun z f w'=>∃(k G2:Nat) (Lk Dk:List (Nat×Obj)),k≤i∧z=i - k∧G2≤1310740+65537*k∧PRep bp (s1.gotN G2) (Dk++D0) Lk∧Step [] (((b11,blk 35 [vm])::(b6,blk 4 [.bool false])::(bw,blk 42 (w8C bp br vR))::(b4,blk 28 x.cells)::(LR++([]++(L10++Lm))))++(Lk++(R++(Dk++D0)))) w0 w'∧Holds f [(6,.pointer (some ⟨b6,0,none⟩)),(7,.pointer (some ⟨bw,0,none⟩)),(9,.slice ra9 i rc9),(10,v10),(11,.pointer (some ⟨b11,0,none⟩)),(24,.int .i64 (k:Nat))]) (m:=i) ?_ ?_
 ·exact⟨0,gw,L2,D2++D1,Nat.zero_le _,rfl,by omega,hP2',hs,rfl,rfl,rfl,rfl,rfl,rfl,trivial⟩
 clear hs hP2'
 rintro zz f w ⟨k,G2,Lk,Dk,hk,rfl,hG2,hPk,hs,hf⟩
 by_cases hlt:k<i
 ·have ob:∃d,(ds.take i)[k]?=some d:=⟨_,getElem?_eq_getElem (by rw[length_take];omega)⟩
  obtain⟨d,hdk⟩:=ob
  have ob:∃tb,B[k]?=some tb:=⟨_,getElem?_eq_getElem (by omega)⟩
  obtain⟨tb,htb⟩:=ob
  have hdm:=mem_of_getElem? hdk
  have hd32':=htk32 d hdm
  have hzl:(u8s d).length=32:=by rw[u8s,length_map,hd32']
  have ob:=hTr0.2 k tb d htb hdk
  obtain⟨htm,htr⟩:=ob
  have ob:=hok d hdm
  obtain⟨hr0,_⟩:=ob
  have hlen0:=bounds_len (s:=s) (d:=d)
  have hgd:=standP_good (s:=s) rmG_ok 34 (x:=rootS d) (t:=ws0) (ws0_good.mono (by omega))
  rw[←runs_root] at hgd
  have hgl:=(hgd hr0).l
  have hgn:=(hgd hr0).n
  have hrg:=runs_g (s:=s) rmG_ok d
  have hload:=fun{w1:World} h=>load_spec (w0:=w1) (rn:=65536) (rd:=32) (rb:=67108864) hPk (ok1.gotN G2) (few1.gotN G2) (by omega) hd32' rmG_ok h
  have hr':runs s1 (rmOf 65536 32 67108864) [rootS d] ws0=runs s rmG [rootS d] ws0:=hsr d hdm
  simp only[runs_gotN,hr',gotN_add] at hload
  have ob:∃r,runs s rmG [rootS d] ws0=r:=⟨_,rfl⟩
  obtain⟨r,hr⟩:=ob
  rw[hr] at htm hr0 hgl hgn hrg
  simp only[hr] at hload
  have ob:=hv9.some1 (by omega)
  obtain⟨bu,cu,more,hu1,hu2,hu3⟩:=ob
  have ob:=hv10.some1 (by omega)
  obtain⟨bt,ct,moret,ht1,ht2,ht3⟩:=ob
  rw[hBl] at ht1
  rw[hu1,ht1] at hf
  have ob:=hf.chain
  obtain⟨g,rfl⟩:=ob
  have hbu:(bu,blk 44 (digsL (ds.take i)++more))∈D0:=h9D _ (by rw[hu2];exact mem_singleton.2 rfl)
  have hxat:∀{w:World},w.heap[bu]?=some (blk 44 (digsL (ds.take i)++more))→At w bu (0+k*32) (u8s d):=fun h=>digsL_at htk32 (At.of_blk h).left hdk
  have htc:∀{w:World},(∀p∈L10,w.heap[p.1]?=some p.2)→w.cell? ⟨bt,0+k*1,none⟩=some tb.1:=fun h=>by
   have ob:=sl_at1 (c:=fun t:Value×List (WI×Value)=>t.1) (hv10.slH h) htb
   obtain⟨b1,o1,c1,e1,e2⟩:=ob
   rw[hBl,ht1] at e1
   cases e1
   exact e2
  refine cq<|sr<|wm<|wm<|wV (run_lenSl u35 rfl)<|wV (run_bT (run_lss rfl rfl) (by omega))<|wZ<|CW.cond rfl (fun h=>?_) (fun h=>?_)
  ·skip
   refine ck<|cq<|cB<|cq<|CW.any (A:=fun w=>w.heap[bw]?=some (blk 42 (w8C bp br vR))∧w.heap[bu]?=some (blk 44 (digsL (ds.take i)++more))) (C:=fun w=>w.heap[bw]?=some (blk 42 (w8C bp br vR))∧w.heap[bu]?=some (blk 44 (digsL (ds.take i)++more))) 1000000 15 mixedP rfl ?_
   replace hs:=hs.drew
   refine aM 0 rfl<|aV 1 rfl (fun w hs=>run_nilCheck rfl)<|aV 2 rfl (fun w hs=>run_field (o':=0) u42 rfl ty39 rfl rfl rfl)<|aV 3 rfl (fun w hs=>run_load1 ty39 rfl ((At.of_blk hs.1).cell (j:=0) rfl))<|aM 4 rfl<|aM 5 rfl<|aV 6 rfl (fun w hs=>run_ixSlN u35 ty44 rfl rfl (by omega))<|aV 7 rfl (fun w hs=>run_loadN ty44 rfl hzl (hxat hs.2))<|AL.one 8 (by kernel_rfl) rfl (⟨hs.has (bw,blk 42 (w8C bp br vR)) (by simp),hs.has (bu,blk 44 (digsL (ds.take i)++more)) (by simp[hbu])⟩) (⟨hs.has (bw,blk 42 (w8C bp br vR)) (by simp),hs.has (bu,blk 44 (digsL (ds.take i)++more)) (by simp[hbu])⟩) ?_
   refine wE rfl (run_call en28 rfl rfl) (great_spec _) ?_
   rintro e w ⟨rfl,hq⟩
   refine⟨_,rfl,?_⟩
   replace hs:=hs.callE hq
   refine wZ<|⟨rfl,?_⟩
   refine AL.one 9 (by kernel_rfl) rfl (⟨hs.has (bw,blk 42 (w8C bp br vR)) (by simp),hs.has (bu,blk 44 (digsL (ds.take i)++more)) (by simp[hbu])⟩) (⟨hs.has (bw,blk 42 (w8C bp br vR)) (by simp),hs.has (bu,blk 44 (digsL (ds.take i)++more)) (by simp[hbu])⟩) ?_
   refine wE rfl (run_call en27 rfl rfl) (hload (Two.live (A:=_::_::_::_::(LR++([]++(L10++Lm)))) hs)) ?_
   rintro e w ⟨vl,T,Lt,L3,D3,rfl,hP3,hOl,hTl,hTn,hTD,hq3⟩
   refine⟨_,rfl,?_⟩
   replace hs:=Two.put (A:=_::_::_::_::(LR++([]++(L10++Lm)))) hs hq3
   refine wZ<|⟨rfl,?_⟩
   refine aM 10 rfl<|aV 11 rfl (fun w hs=>run_extract rfl rfl)<|aV 12 rfl (fun w hs=>run_extract rfl rfl)<|aV 13 rfl (fun w hs=>run_assign)<|aV 14 rfl (fun w hs=>run_assign)<|AL.end (by kernel_rfl) (⟨hs.has (bw,blk 42 (w8C bp br vR)) (by simp),hs.has (bu,blk 44 (digsL (ds.take i)++more)) (by simp[hbu])⟩) (⟨hs.has (bw,blk 42 (w8C bp br vR)) (by simp),hs.has (bu,blk 44 (digsL (ds.take i)++more)) (by simp[hbu])⟩) ?_
   have hTm:=hTl hr0
   obtain⟨⟨Lb,hOb,hLb⟩,hHb⟩:=htr
   have hTlen:T.length=r.2.l.length:=by rw[←hTm,length_map]
   have hTD2:∀u∈T,Held ((Lt++D3)++(Dk++D0)) u.2 u.1.x:=fun u hu=>(hTD u hu).mono fun p hp=>by
    simp only[mem_append] at hp⊢
    rcases hp with hp | hp | hp <;> simp[hp]
   have hsame:=fun{w1:World} h1 h2 h3 h4=>sameIt_spec (u:=vl) (v:=tb.1) (T:=T) (T':=tb.2) w1 h1 h2 (by rw[hTm,htm]) h3 h4 (by omega)
   refine sr<|wm<|wV (run_bF (run_neq rfl rfl) (by exact fun h=>h hr0))<|wm<|wy<|wm<|wy<|wm<|wy<|wm ?_
   refine wy ?_;(first | refine WL.val rfl (run_ixSlN u22 ty65 rfl rfl (by omega)) ?_ | refine WL.val rfl (run_ixSl u22 ty65 rfl rfl (by omega)) ?_)
   refine wy<|wl ty65 rfl (htc (fun p hp=>hs.has p (by simp[hp])))<|wy<|wE rfl (run_call en30 rfl rfl) (hsame (hOl.slH fun p hp=>hs.has p (by simp[hp])) (hOb.slH fun p hp=>hs.has p (by simp[hLb p hp])) (fun u hu=>(hTD2 u hu).sl fun p hp=>hs.has p (mem_append_right _ (mem_append_right _ (mem_append_right _ hp)))) (fun u hu=>(hHb u hu).sl fun p hp=>hs.has p (by simp[hp]))) ?_
   rintro e w ⟨rfl,hq⟩
   refine⟨_,rfl,?_⟩
   replace hs:=hs.callE hq
   refine wy ?_;(first | refine WL.val rfl (run_notB rfl) ?_ | refine WL.val rfl (run_not rfl) ?_)
   refine wV (run_pickF rfl)<|wZ<|CW.cond rfl (fun h=>?_) (fun h=>?_)
   ·cases h
   refine ck<|cr<|wm<|wV (run_add (c:=((k+1:Nat):Int)) rfl rfl (by omega) (by omega))<|wA<|wZ<|(show _∧_ from⟨rfl,_,?_,k+1,G2+r.2.g,L3,(Lt++D3)++Dk,hlt,rfl,?_,?_,?_,rfl,rfl,hu1.symm,ht1.symm,rfl,rfl,trivial⟩)
   ·omega
   ·omega
   ·exact hP3.mono fun p hp=>by
     simp only[mem_append] at hp⊢
     rcases hp with hp | hp | hp <;> simp[hp]
   ·rw[append_assoc (Lt++D3)];exact hs
  ·cases h
 ·have ob:=hf.chain
  obtain⟨g,rfl⟩:=ob
  obtain rfl:k=i:=by omega
  refine cq<|sr<|wm<|wm<|wV (run_lenSl u35 rfl)<|wV (run_bF (run_lss rfl rfl) (by omega))<|wZ<|CW.cond rfl (fun h=>?_) (fun h=>?_)
  ·cases h
  have okk:=ok1.gotN G2
  refine CW.exit<|sr<|wm<|wn rfl<|wF 0 u42 rfl ty39 rfl<|wl ty39 rfl (hs.c2 rfl)<|wE rfl (run_call en31 rfl rfl) (all_abs hPk okk (Two.live (A:=_::_::_::_::(LR++([]++(L10++Lm)))) hs)) ?_
  rintro e w ⟨bq,lv,Lq,Q,rfl,ha1,ha2,ha3,hq⟩
  refine⟨_,rfl,?_⟩
  replace hs:=Step.perm (Step.call0 hs hq) perm_e7
  refine wA<|wZ ?_
  replace ha2:Q.length=s1.X.length:=ha2
  replace ha3:∀(i:Nat) (r:Row) (b:Blb),(Q:List Row)[i]?=some r→s1.X[i]?=some b→r.d=b.d∧Held (Dk++D0) r.v b.x:=ha3
  have ob:∃Y,((bq,blk 156 [lv])::Lq)++(((b11,blk 35 [vm])::(bw,blk 42 (w8C bp br vR))::(b4,blk 28 x.cells)::(LR++([]++(L10++Lm))))++(Lk++(R++(Dk++D0))))=Y:=⟨_,rfl⟩
  obtain⟨Y,hY⟩:=ob
  have hm11:(b11,blk 35 [vm])∈Y:=by rw[←hY];simp
  have hmL:∀p∈Lm,p∈Y:=fun p hp=>by rw[←hY];simp[hp]
  have hmq:∀p∈(bq,blk 156 [lv])::Lq,p∈Y:=fun p hp=>by
   rw[←hY]
   exact mem_append_left _ hp
  have hmD:∀p∈Dk++D0,p∈Y:=fun p hp=>by rw[←hY];exact mem_append_right _ (mem_append_right _ (mem_append_right _ (mem_append_right _ hp)))
  rw[hY] at hs
  refine cq<|sr<|wm<|wV (run_funcNil u72 rfl rfl)<|wZ<|CW.cond rfl (fun h=>?_) (fun h=>?_)
  ·cases h
  refine ck<|cq<|sr<|wm<|wZ<|cB<|CW.rangeFunc2 (cap:=[.pointer (some ⟨bq,0,none⟩)]) en82 rfl hs ?_
  intro l0 b0 r0 w2 hrec hrs hrp hs2
  clear hs
  refine(all2_iter (b3:=bq) (lv:=lv) (R:=Q) (X:=s1.X.map fun b=>(b.d,b.x)) w2
   (J:=fun k L W=>L=[(l0,.loop r0),(b0,.deferred (some []))]∧Step [] (L++((b6,blk 4 [.bool false])::Y)) w0 W)
   (Jx:=fun _=>False) (L0:=[(l0,.loop r0),(b0,.deferred (some []))]) ?_ ?_ ?_ ?_).mono ?_
  ·rintro k L W W' ⟨rfl,hs⟩ h'
   exact⟨rfl,hs.callE h'⟩
  ·rintro k L W ⟨rfl,hs⟩
   exact seqOk_has ok1 ha1 ha2 ha3 (fun p hp=>hs.has p (mem_append_right _ (mem_cons_of_mem _ (hmq p hp)))) (fun p hp=>hs.has p (mem_append_right _ (mem_cons_of_mem _ (hmD p hp))))
  ·exact⟨rfl,hs2⟩
  ·rintro k d x' L' W W1 v' Lv' hx' ⟨rfl,hs⟩ hst hu'
   obtain⟨b,hb,hbd⟩:∃b,s1.X[k]?=some b∧b.d=d:=by
    rw[getElem?_map] at hx'
    cases hb:s1.X[k]? with
    | none=>rw[hb] at hx';cases hx'
    | some b=>
     rw[hb] at hx'
     simp only[Option.map_some,Option.some.injEq,Prod.mk.injEq] at hx'
     exact⟨b,rfl,hx'.1⟩
   subst hbd
   have hbX:=mem_of_getElem? hb
   have hd32b:=ok1.len b hbX
   have hdlb:(u8s b.d).length=32:=by rw[u8s,length_map,hd32b]
   have hbm:=hlm b hbX
   have hW1:=Step.call0 hs hst
   rw[←append_assoc] at hW1
   have hsW:=Step.append_comm (L1:=Lv') (L2:=[_,_]) (Step.own hW1)
   have hYw:∀{w:World}{L2:List (Nat×Obj)},Step ((Lv'++[(l0,Obj.loop r0),(b0,Obj.deferred (some []))]).map (·.1)) L2 W1 w→∀p∈Y,w.heap[p.1]?=some p.2:=fun h p hp=>(Step.call hW1 h).has p (mem_append_right _ (mem_cons_of_mem _ hp))
   have hhas:=fun{w1:World} (h:∀p∈Lm,w1.heap[p.1]?=some p.2)=>hasL8_spec (w0:=w1) (Dgs.own hvm h hm32 (by omega)) hd32b
   rw[decide_eq_true hbm] at hhas
   have ob:=hu'.form
   obtain⟨va',vc',rfl⟩:=ob
   refine yields_of2 (n:=219) hrec hrs rfl rfl hsW ?_
   have hs:=hsW
   refine CWI.reg rfl (fun _ _ _ h=>h) ?_
   refine WL.alloc ty44 rfl hs (fun b28 w hs=>?_)
   refine WL.storeAll ty44 rfl rfl ((hdlb)) (Cells1.u8s _) hs (by rfl) (fun w hs=>?_)
   refine wZ<|⟨_,_,_,_,hs.swap,hrs,fun w3 hs=>?_⟩
   refine CWI.block<|CWI.seq ?_
   refine CWI.reg rfl (fun _ _ _ h=>h) ?_
   refine wl ty35 rfl ((by rw[cell_blk (hYw hs _ hm11)];rfl))<|wV (run_loadN ty44 rfl hdlb hs.a1)<|wE rfl (run_call en32 rfl rfl) (hhas (fun p hp=>hYw hs p (hmL p hp))) ?_
   rintro e w ⟨rfl,hq⟩
   refine⟨_,rfl,?_⟩
   replace hs:=hs.callE hq
   refine wV (run_not rfl)<|wZ<|CWI.condF rfl<|CWI.skip ?_
   refine⟨_,_,_,_,hs,fun w' hs'=>?_⟩
   rw[Loop.at_back hrs hrp] at hs'
   rw[if_pos rfl]
   have hs4:=Step.dropR (L1:=[_,_]) (Step.dropMid (A:=[_]) (B:=[_]) hs')
   exact⟨_,hs4,rfl,Step.call hW1 hs4⟩
  ·rintro e W5 ⟨hret,⟨L',rfl,hs5⟩ | h⟩
   ·refine⟨hret,behind_none hs5 hrs hrp fun w hs=>?_⟩
    replace hs:=hs.tail
    refine sr<|WL.store1_1 ty4 rfl rfl (rfl) hs (by first | (simp;done) | omega | (simp only[length_append,length_replicate,length_cons,length_nil,length_set];omega) | (simp[Ent.cells,u8s];done) | exact Nat.le_of_ble_eq_true rfl) (fun w hs=>?_)
    refine wZ<|CW.ret ?_
    exact finM_ret (bs:=[b0]) (.inl rfl) hs fun a ha w' hs'=>⟨_,res_cell1 ha rfl rfl (run_loadVar1 ty4 (hs'.c1 rfl)),rfl,hs'.clear⟩
   ·exact h.elim
end
end Go.Gx
