/- The program's walk, walked. alike of chapter 8's law: walked. Lists of digests: same, has, round; a World's root. What a walk that went well has told: its standings and its items go together; its digests are digests. No program in sight. Reach, of both sides; the document's Walk. Reach, of both side -/
import Derived.Test.YtplmnkogkfhaiaaGreatS7
import Derived.Test.YtplmnkogkfhaiaaGreatS2
set_option linter.unusedVariables false
set_option linter.unusedSimpArgs false
set_option maxRecDepth 100000
namespace Go.Gx
open Go.Proofs List
attribute [local irreducible] shaL cutD frontL
def roomC (rm:Rm):List Value:=[.int .i64 rm.n,.int .i64 rm.d,.int .i64 rm.b]
theorem zBytes (w:World):(zeroValue 76).run Tryz.prog w=.ok (.slice none 0 0) w:=by kernel_rfl
section
variable{s:AS}{rm:Rm}{x:Std}{t:WS}
theorem visit_nodes (c1:¬rm.d<x.dep) (c2:rm.n<(t.n:Int)+1):visit s rm x t=(62,[],t.node):=by rw[visit,if_neg c1,if_pos c2]
theorem visit_get (c1:¬rm.d<x.dep) (c2:¬rm.n<(t.n:Int)+1) (c3:(s.get x.d).2≠0):visit s rm x t=(((s.get x.d).2:Int),[],t.node.meet x):=by rw[visit,if_neg c1,if_neg c2,if_pos c3]
theorem visit_bytes (c1:¬rm.d<x.dep) (c2:¬rm.n<(t.n:Int)+1) (c3:¬(s.get x.d).2≠0) (c4:x.dir=false) (c5:rm.b<(t.b:Int)+(s.get x.d).1.length):visit s rm x t=(63,[],(t.node.meet x).byte (s.get x.d).1.length):=by
 rw[visit,if_neg c1,if_neg c2,if_neg c3,if_neg (by simp[c4]),if_pos c5]
theorem visit_file (c1:¬rm.d<x.dep) (c2:¬rm.n<(t.n:Int)+1) (c3:¬(s.get x.d).2≠0) (c4:x.dir=false) (c5:¬rm.b<(t.b:Int)+(s.get x.d).1.length):visit s rm x t=(0,[],((t.node.meet x).byte (s.get x.d).1.length).item ⟨x.p,false,(s.get x.d).1⟩):=by
 rw[visit,if_neg c1,if_neg c2,if_neg c3,if_neg (by simp[c4]),if_neg c5]
theorem visit_dec (c1:¬rm.d<x.dep) (c2:¬rm.n<(t.n:Int)+1) (c3:¬(s.get x.d).2≠0) (c4:x.dir=true) (c5:decE (s.get x.d).1≠0):visit s rm x t=(decE (s.get x.d).1,[],t.node.meet x):=by
 rw[visit,if_neg c1,if_neg c2,if_neg c3,if_pos c4,if_pos c5]
theorem visit_dir (c1:¬rm.d<x.dep) (c2:¬rm.n<(t.n:Int)+1) (c3:¬(s.get x.d).2≠0) (c4:x.dir=true) (c5:decE (s.get x.d).1=0):visit s rm x t=(0,kids x (s.get x.d).1,t.node.meet x):=by
 rw[visit,if_neg c1,if_neg c2,if_neg c3,if_pos c4,if_neg (by rw[c5];simp)]
end
section
variable{S:List Nat}{L M D T X LO Z A B:OL}{a b c p q r:Nat×Obj}{w w':World}
theorem Step.init (h:Step S (T++(p::r::q::b::a::X)) w w'):Step S (b::(T++([p,q,r]++X))) w w':=Step.tail (p:=a) (h.perm (by
 have h1:(p::r::q::b::a::X).Perm ([a,b]++([p,q,r]++X)):=
  ((List.Perm.swap q r _).cons p).trans ((perm_append_comm_assoc [p,q,r] [b,a] X).trans (List.Perm.swap a b _))
 exact(h1.append_left T).trans (perm_append_comm_assoc T [a,b] _)))
theorem Step.in6 (h:Step S (a::p::q::r::b::c::(LO++X)) w w'):Step S (LO++(a::p::q::r::b::c::X)) w w':=h.perm (perm_append_comm_assoc [a,p,q,r,b,c] LO X)
theorem Step.out6 (h:Step S (LO++(a::p::q::r::b::c::X)) w w'):Step S (p::q::r::b::c::(LO++X)) w w':=Step.tail (p:=a) (h.perm (perm_append_comm_assoc LO [a,p,q,r,b,c] X))
theorem Step.pick (h:Step S (a::(T++(c::Z))) w w'):Step S (c::(a::(T++Z))) w w':=h.perm (by
 have h1:(a::(T++(c::Z))).Perm (a::c::(T++Z)):=perm_middle.cons a
 exact h1.trans (List.Perm.swap c a _))
theorem Step.partsIn (h:Step S (b::(T++(M++(Z++(L++(A++(B++D))))))) w w'):Step S (b::(T++(M++(L++((Z++(A++B))++D))))) w w':=h.perm (by
 have e:L++((Z++(A++B))++D)=L++(Z++(A++(B++D))):=by simp[append_assoc]
 rw[e]
 exact(((perm_append_comm_assoc Z L _).append_left M).append_left T).cons b)
theorem Step.in2 (h:Step S (a::b::(Z++X)) w w'):Step S (Z++(a::b::X)) w w':=h.perm (perm_append_comm_assoc [a,b] Z X)
theorem Step.out2 (h:Step S (Z++(a::b::X)) w w'):Step S (Z++X) w w':=Step.tail (p:=b) (Step.tail (p:=a) (h.perm (perm_append_comm_assoc Z [a,b] X)))
end
theorem run_notV{P:Program}{f:Slots}{w:World}{d:Option Tmp}{T ty:TypeId}{pos:String}{af:Array Edge}{x:Operand}{b c:Bool} (hb:b=c) (hx:ev f x=.bool b:=by rfl):(execOp (ev f) ⟨d,.unOp .not T x,ty,pos,af,none⟩).run P w=.ok (.value (.bool (!c))) w:=by
 subst hb
 exact run_not hx
theorem mem5{a b c d e p:Nat×Obj}{A B C X:OL} (h:p∈X):p∈a::b::c::d::e::(A++(B++(C++X))):=by simp[h]
abbrev STK:=209
abbrev STD:=212
theorem FwPost.err{bp:Nat}{s:AS}{r:Int×WS}{e:Int}{u:WS}{D D' L L':OL}{w0 w':World}{ed:Ending} (hre:r=(e,u)) (hne:e≠0) (hed:ed=.returned (.tuple #[.pointer none,.int .i64 e])) (hP:PRep bp (s.gotN u.g) (D'++D) L') (h:Step (L.map (·.1)) (L'++([]++D')) w0 w'):FwPost bp s r D L w0 ed w':=by
 subst hre
 exact⟨_,L',D',[],hed,hP,fun h=>absurd h hne,fun _=>rfl,h⟩
theorem FwPost.ok{bp bm:Nat}{s:AS}{r:Int×WS}{u:WS}{D D' L L' M:OL}{w0 w':World}{ed:Ending} (hre:r=(0,u)) (hed:ed=.returned (.tuple #[pt bm,.int .i64 0])) (hP:PRep bp (s.gotN u.g) (D'++D) L') (hM:MetRep bm s u.m (D'++D) M) (h:Step (L.map (·.1)) (L'++(M++D')) w0 w'):FwPost bp s r D L w0 ed w':=by
 subst hre
 exact⟨_,L',D',M,hed,hP,fun _=>⟨bm,rfl,hM⟩,fun h=>absurd rfl h,h⟩
section
variable{bp N:Nat}{s:AS}{D L:OL}{d:U8}{rn rd rb:Int}{w0:World}
set_option maxHeartbeats 16000000 in
theorem fwalk_spec (hR:PRep bp s D L) (ok:s.Ok) (hfew:s.Few N) (hN:N<1000000000000) (hd:d.length=32) (hrm:(rmOf rn rd rb).Ok) (hw:Lives (L++D) w0) :
  CP 64 #[pt bp,.agg (u8s d).toArray,.agg #[.int .i64 rn,.int .i64 rd,.int .i64 rb]] w0 (FwPost bp s (runs s (rmOf rn rd rb) [rootS d] ws0) D L w0):=by
 have ob:∃r,runs s (rmOf rn rd rb) [rootS d] ws0=r:=⟨_,rfl⟩
 obtain⟨r,hr⟩:=ob
 rw[hr]
 have hdl:(u8s d).length=32:=by rw[u8s,length_map,hd]
 have hs:Step (List.map (·.1) (L++D)) (L++D) w0 w0:=hw
 have ob:∃rm,rm=rmOf rn rd rb:=⟨_,rfl⟩
 obtain⟨rm,hrme⟩:=ob
 rw[←hrme] at hr hrm
 have hrn:=hrm.n
 have hrd:=hrm.d
 have hrb:=hrm.b
 refine calls (n:=161) Tryz.func64 rfl rfl rfl ?_
 refine sr<|WL.box (cs:=u8s d) rfl rfl rfl hs (fun b4 w hs=>?_)
 refine WL.box (cs:=[.int .i64 rn,.int .i64 rd,.int .i64 rb]) rfl rfl rfl hs (fun b5 w hs=>?_)
 refine wA<|wA<|wZ<|CW.scope ?_
 refine sr<|WL.makeMapD rfl hs (fun b23 w hs=>?_)
 refine WL.makeMapD rfl hs (fun b24 w hs=>?_)
 refine wV (run_build rfl (bld_met _ _ _))<|WL.box (cs:=[.slice none 0 0,.map (some b23),.map (some b24)]) rfl rfl rfl hs (fun b26 w hs=>?_)
 refine wA<|wZ<|sr<|WL.alloc ty209 rfl hs (fun b9 w hs=>?_)
 refine wZ ?_
 have hS0:Stk STK STD 34 b9 [] [(b9,blk STK [.slice none 0 0])]:=⟨(fun c hc=>by cases hc),_,[],rfl,OwnSl.nil _ _⟩
 refine sr<|wR ty44 rfl (by assumption) hs.a5<|wV (run_build rfl (bld_root hd _))<|wE rfl (run_call en116 rfl rfl) (pushstanding_spec hS0 (stdC_len (x:=rootS d) hd) (stdC_c1 _) (by simp) (Lives.of (L1:=[_]) hs)) ?_
 rintro e w ⟨T1,rfl,hS1,hq⟩
 refine⟨_,rfl,?_⟩
 replace hs:=Step.init (Step.call (L1:=[_]) hs hq)
 refine wZ<|sr<|wA<|wA<|wA<|wZ<|sr<|wF 0 u30 rfl ty3 rfl<|wl ty3 rfl (hs.c0 rfl)<|wV (run_minZ rfl rfl)<|wF 1 u30 rfl ty3 rfl<|wl ty3 rfl (hs.c0 rfl)<|wV (run_minZ rfl rfl)<|wF 2 u30 rfl ty3 rfl<|wl ty3 rfl (hs.c0 rfl)<|wV (run_minZ rfl rfl)<|wV (run_build rfl (bld_room _ _ _ _)) ?_
 refine WL.storeAll ty30 rfl rfl ((rfl)) ((Cells1.of_all rfl)) hs (by rfl) (fun w hs=>?_)
 refine wZ ?_
 replace hs:Step (List.map (·.1) (L++D)) ((b5,blk 30 (roomC rm))::(T1++([(b26,blk 132 [.slice none 0 0,.map (some b23),.map (some b24)]),(b23,mapObj [] 0),(b24,mapObj [] 0)]++(L++([]++D))))) w0 w:=by rw[hrme];exact hs
 have hM0:MetRep b26 s ws0.m ([]++D) [(b26,blk 132 [.slice none 0 0,.map (some b23),.map (some b24)]),(b23,mapObj [] 0),(b24,mapObj [] 0)]:=
  ⟨_,[],b23,[],0,b24,[],0,rfl,OwnSl.nil _ _,⟨(fun p hp=>by cases hp),fun d=>by rw[valD_nil];simp[ws0,ordM]⟩,⟨(fun p hp=>by cases hp),fun d=>by rw[valD_nil];simp[ws0]⟩⟩
 refine cq<|CW.label<|cq<|cB<|CW.loop (fun z f w'=>∃todo t T M L1 D1,runs s rm todo t=r∧z=65537 - t.n∧t.Good 0∧todo.length≤1+t.n*1024∧(∀x∈todo,x.d.length=32∧x.dep≤33)∧Stk STK STD 34 b9 (todo.map stdC) T∧MetRep b26 s t.m (D1++D) M∧PRep bp (s.gotN t.g) (D1++D) L1∧Step (List.map (·.1) (L++D)) ((b5,blk 30 (roomC rm))::(T++(M++(L1++(D1++D))))) w0 w'∧Holds f [(0,pt bp),(5,pt b5),(8,pt b26),(9,pt b9),(10,.int .i64 (t.n:Nat)),(11,.int .i64 (t.b:Nat))]) (m:=65537) ?_ ?_
 ·exact⟨[rootS d],ws0,T1,_,L,[],hr,rfl,ws0_good,by simp,fun x hx=>by obtain rfl:=mem_singleton.1 hx;exact⟨hd,Nat.zero_le _⟩,hS1,hM0,hR,hs,rfl,rfl,rfl,rfl,rfl,rfl,trivial⟩
 clear hs hr hS1 hM0
 rintro z f w ⟨todo,t,T,M,L1,D1,hr,rfl,hg,hlen,htd,hS,hM,hP,hs,hf⟩
 have ob:=hf.chain
 obtain⟨g,rfl⟩:=ob
 have hn1:=hg.n
 have hb1:=hg.b
 have hg1:=hg.g
 have hm1:=hg.m
 cases todo with
 | nil=>
  have hre:(0,t)=r:=hr
  refine cB<|sr<|wE rfl (run_call en117 rfl rfl) (popstanding_nil hS (Lives.of (L1:=T) hs.tail)) ?_
  rintro e w ⟨z,rfl,hz,hz1,hq⟩
  refine⟨_,rfl,?_⟩
  replace hs:=hs.callE hq
  refine wm<|wx rfl rfl<|wx rfl rfl<|WL.alloc ty212 rfl hs (fun b13 w hs=>?_)
  refine WL.storeAll ty212 rfl rfl ((hz)) ((hz1)) hs (by rfl) (fun w hs=>?_)
  refine wA<|wZ<|cq<|sr<|wm<|wN rfl<|wZ<|CW.cond rfl (fun h=>?_) (fun h=>?_)
  ·refine sr<|wm<|wA<|wA<|wZ<|CW.ret ?_
   refine fin_ret2 rfl ?_
   exact FwPost.ok hre.symm rfl hP hM (Step.fin hw (Step.dropL (L1:=T) hs.tail.tail))
  ·cases h
 | cons x rest=>
  have ob:=htd x (by simp)
  obtain⟨hx32,hxd⟩:=ob
  have hxl:(u8s x.d).length=32:=by rw[u8s,length_map,hx32]
  have hgl:=get_len ok x.d
  have hsl:=stdC_len hx32
  have h32:(stdC x)[32]?=some (.bool x.dir):=by rw[stdC,getElem?_append_right (by omega),hxl];rfl
  have h33:(stdC x)[33]?=some (.int .i64 (x.dep:Nat)):=by rw[stdC,getElem?_append_right (by omega),hxl];rfl
  rw[length_cons] at hlen
  rw[runs_cons s hrd.2] at hr
  have hr1:∀{e:Int}{u:WS},visit s rm x (push x t)=(e,[],u)→e≠0→r=(e,u):=fun {e u} h he=>by rw[h,if_pos he] at hr;exact hr.symm
  have hpn:=push_n x t
  have hpb:=push_b x t
  refine cB<|sr<|wE rfl (run_call en117 rfl rfl) (popstanding_spec (c:=stdC x) (l:=rest.map stdC) hS (by rw[length_map];omega) (Lives.of (L1:=T) hs.tail)) ?_
  rintro e w ⟨T2,rfl,hS2,hq⟩
  refine⟨_,rfl,?_⟩
  replace hs:=Own.set (A:=[_]) hs hq
  refine wm<|wx rfl rfl<|wx rfl rfl<|WL.alloc ty212 rfl hs (fun b13 w hs=>?_)
  refine WL.storeAll ty212 rfl rfl ((hsl)) ((stdC_c1 x)) hs (by rfl) (fun w hs=>?_)
  refine wA<|wZ<|cq<|sr<|wm<|wN rfl<|wZ<|CW.cond rfl (fun h=>?_) (fun h=>?_)
  ·cases h
  refine ck<|sr<|wm<|wP ((t.n+1:Nat):Int)<|wA<|wZ<|sr<|wA<|wA<|wZ ?_
  by_cases c1:rm.d<x.dep
  ·have hre:=hr1 (visit_deep c1) (by decide)
   refine cq<|cB<|sr<|wF 33 u212 rfl ty3 rfl<|wl ty3 rfl (hs.c0 h33)<|wF 1 u30 rfl ty3 rfl<|wl ty3 rfl (hs.c1 (v:=.int .i64 rm.d) rfl)<|xT<|wA<|wZ<|CW.cond rfl (fun h=>?_) (fun h=>?_)
   ·refine sr<|wA<|wZ<|CW.exit<|sr<|wm<|wA<|wA<|wZ<|CW.ret ?_
    refine fin_ret2 rfl ?_
    exact FwPost.err hre (by decide) rfl (by show PRep bp (s.gotN (push x t).g) _ _;rw[push_g];exact hP) (Step.fin (M:=[]) hw (Step.dropL (Step.dropL hs.tail.tail)))
   ·cases h
  refine cq<|cB<|sr<|wF 33 u212 rfl ty3 rfl<|wl ty3 rfl (hs.c0 h33)<|wF 1 u30 rfl ty3 rfl<|wl ty3 rfl (hs.c1 (v:=.int .i64 rm.d) rfl)<|xF<|wA<|wZ<|CW.cond rfl (fun h=>?_) (fun h=>?_)
  ·cases h
  by_cases c2:rm.n<((push x t).n:Int)+1
  ·have hre:=hr1 (visit_nodes c1 c2) (by decide)
   rw[hpn] at c2
   refine sr<|wm<|wF 0 u30 rfl ty3 rfl<|wl ty3 rfl (hs.c1 (v:=.int .i64 rm.n) rfl)<|xT<|wA<|wZ<|CW.cond rfl (fun h=>?_) (fun h=>?_)
   ·refine sr<|wA<|wZ<|CW.exit<|sr<|wm<|wA<|wA<|wZ<|CW.ret ?_
    refine fin_ret2 rfl ?_
    exact FwPost.err hre (by decide) rfl (by show PRep bp (s.gotN (push x t).g) _ _;rw[push_g];exact hP) (Step.fin (M:=[]) hw (Step.dropL (Step.dropL hs.tail.tail)))
   ·cases h
  have c2':=c2
  rw[hpn] at c2'
  refine sr<|wm<|wF 0 u30 rfl ty3 rfl<|wl ty3 rfl (hs.c1 (v:=.int .i64 rm.n) rfl)<|xF<|wA<|wZ<|CW.cond rfl (fun h=>?_) (fun h=>?_)
  ·cases h
  replace hs:=Step.as2 (T:=T2) (M:=M) hs
  refine ck<|cq<|sr<|wm<|wF 0 u212 rfl ty44 rfl<|wR ty44 rfl hxl hs.a0.left<|wE rfl (run_call en76 rfl rfl) (get_abs hP (ok.gotN _) (hfew.gotN _) (by omega) (Own.live (A:=_::_::(T2++M)) hs) hx32) ?_
  rintro e w ⟨v,Lv,L2,rfl,hvy,hP2,hq⟩
  refine⟨_,rfl,?_⟩
  replace hs:=Own.put (A:=_::_::(T2++M)) hs hq
  refine wm<|wx rfl rfl<|wx rfl rfl<|wA<|wA<|wZ ?_
  by_cases c3:(s.get x.d).2≠0
  ·have hre:=hr1 (visit_get c1 c2 c3) (by omega)
   refine sr<|wm<|wV (run_bT (run_neq rfl rfl) (by exact fun h=>c3 (Int.ofNat.inj h)))<|wZ<|CW.cond rfl (fun h=>?_) (fun h=>?_)
   ·refine CW.exit<|sr<|wm<|wA<|wA<|wZ<|CW.ret ?_
    refine fin_ret2 rfl ?_
    exact FwPost.err (D':=Lv++D1) hre (fun h=>c3 (Int.ofNat.inj h)) rfl (by show PRep bp (s.gotN ((push x t).g+1)) _ _;rw[push_g,append_assoc];exact hP2.mono mem_right) (Step.fin (M:=[]) hw (by rw[append_assoc];exact Step.dropL (L1:=T2++M) hs.tail.tail))
   ·cases h
  have c30:(s.get x.d).2=0:=by simpa using c3
  refine sr<|wm<|wV (run_bF (run_neq rfl rfl) (by exact fun h=>h (congrArg (fun n:Nat=>(n:Int)) c30)))<|wZ<|CW.cond rfl (fun h=>?_) (fun h=>?_)
  ·cases h
  have ob:=hvy.form
  obtain⟨va,vc,rfl⟩:=ob
  have hHl:Held (Lv++(D1++D)) (.slice va (s.get x.d).1.length vc) (s.get x.d).1:=⟨Lv,hvy,fun p hp=>mem_append_left _ hp⟩
  have hP3:PRep bp (s.gotN (t.g+1)) (Lv++(D1++D)) L2:=hP2.mono mem_right
  have hM3:=hM.mono (D':=Lv++(D1++D)) mem_right
  obtain⟨vO,LO,q1,M1,k1,q2,M2,k2,rfl,hO,hB,hPm⟩:=hM3
  have ob:=hO.form
  obtain⟨oa,oc,rfl⟩:=ob
  have hol:=ordM_len t.m
  replace hs:=Step.toMet hs
  refine ck<|CW.seqM (fun f w=>∃vO' LO',OwnSl 44 32 vO' (ordM (t.m++[(x.d,x.dir)])).length (digsL (ordM (t.m++[(x.d,x.dir)]))) LO'∧Step (List.map (·.1) (L++D)) ((b26,blk 132 [vO',.map (some q1),.map (some q2)])::(q1,mapObj M1 k1)::(q2,mapObj M2 k2)::(b13,blk STD (stdC x))::(b5,blk 30 (roomC rm))::(LO'++(T2++(L2++(Lv++(D1++D)))))) w0 w∧Holds f [(0,pt bp),(5,pt b5),(8,pt b26),(9,pt b9),(10,.int .i64 ((t.n+1:Nat):Int)),(11,.int .i64 (t.b:Nat)),(13,pt b13),(15,.slice va (s.get x.d).1.length vc)]) ?_ ?_
  ·have hbv:=hB.val x.d
   by_cases hk:x.d∈ordM t.m
   ·have hks:(findD x.d M1 0).isSome=true:=by
     rw[valD_isSome]
     cases hv:valD x.d M1 with
     | none=>rw[hv] at hbv;exact absurd hk hbv
     | some u=>rfl
    refine cq<|CW.quiet mixedP (by kernel_rfl) hs ?_
    refine qm<|qn rfl<|qF 1 u132 rfl ty129 rfl<|qL ty129 rfl (fun w hs=>hs.c0 (v:=.map (some q1)) rfl)<|qF 0 u212 rfl ty44 rfl<|qV (fun w hs=>run_loadN ty44 rfl hxl hs.a3.left)<|qV (fun w hs=>run_lookupE u129 (zBytes _) hB.keys hx32 rfl hks rfl rfl hs.tail.hd)<|qm<|qx rfl rfl<|qx rfl rfl<|qA<|qA<|QL.nil (fun w hs=>?_)
    refine sr<|wm<|wN rfl<|wZ<|CW.cond rfl (fun h=>?_) (fun h=>?_)
    ·cases h
    refine ck<|⟨rfl,_,LO,?_,hs,rfl,rfl,rfl,rfl,rfl,rfl,rfl,rfl,trivial⟩
    rw[ordM_snoc,if_pos hk];exact hO
   ·have hks:(findD x.d M1 0).isSome=false:=by
     rw[valD_isSome]
     cases hv:valD x.d M1 with
     | none=>rfl
     | some u=>rw[hv] at hbv;exact absurd hbv.1 hk
    refine cq<|CW.quiet mixedP (by kernel_rfl) hs ?_
    refine qm<|qn rfl<|qF 1 u132 rfl ty129 rfl<|qL ty129 rfl (fun w hs=>hs.c0 (v:=.map (some q1)) rfl)<|qF 0 u212 rfl ty44 rfl<|qV (fun w hs=>run_loadN ty44 rfl hxl hs.a3.left)<|qV (fun w hs=>run_lookupE u129 (zBytes _) hB.keys hx32 rfl hks rfl rfl hs.tail.hd)<|qm<|qx rfl rfl<|qx rfl rfl<|qA<|qA<|QL.nil (fun w hs=>?_)
    refine sr<|wm<|wN rfl<|wZ<|CW.cond rfl (fun h=>?_) (fun h=>?_)
    ·skip
     refine CW.any (A:=fun w=>Step (List.map (·.1) (L++D)) [(b13,blk STD (stdC x))] w0 w) (C:=fun w=>Step (List.map (·.1) (L++D)) [(b26,blk 132 [.slice oa (ordM t.m).length oc,.map (some q1),.map (some q2)]),(q1,mapObj M1 k1),(q2,mapObj M2 k2),(b13,blk STD (stdC x))] w0 w) 11 12 mixedP rfl ?_
     replace hs:=hs.drew
     refine aM 0 rfl<|aM 1 rfl<|aN 2 rfl rfl<|aF 3 rfl 0 u132 rfl ty35 rfl<|aL 4 rfl ty35 rfl (fun w hs=>hs.c0 rfl)<|aF 5 rfl 0 u212 rfl ty44 rfl<|aV 6 rfl (fun w hs=>run_loadN ty44 rfl hxl hs.a3.left)<|AL.one 7 (by kernel_rfl) rfl (by exact Step.dropR (L1:=[(b13,_)]) hs.tail.tail.tail) (by exact Step.dropR (L1:=[_,_,_,_]) hs) ?_
     refine WL.buildSlice (cs:=u8s x.d) u35 ty44 rfl (by decide) rfl (filled1 hxl rfl) rfl hs (fun b88 w hs=>?_)
     have hsl88:Sl w 32 (.slice (some ⟨b88,0,none⟩) 1 1) 1 (u8s x.d):=.own1 hs (by rw[hxl])
     replace hs:=Step.in6 hs
     refine wZ<|⟨rfl,?_⟩
     refine AL.one 8 (by kernel_rfl) rfl (by exact Step.dropR (L1:=[(b13,_)]) (hs.dropL (L1:=LO)).tail.tail.tail.tail) (by exact Step.dropR (L1:=[_,_,_,_]) (hs.dropL (L1:=LO)).tail) ?_
     refine WL.append u35 u35 ty44 rfl (by decide) rfl rfl (hO) (hs) (hsl88) (Cells1.u8s _) (by omega) rfl (fun v89 Lv89 w hv89 hs=>?_)
     replace hs:=Step.out6 hs
     refine wZ<|⟨rfl,?_⟩
     refine AL.valA 9 rfl (by kernel_rfl) rfl (fun w hs=>run_nilCheck rfl) ?_
     refine aF 10 rfl 0 u132 rfl ty35 rfl<|AL.one 11 (by kernel_rfl) rfl (by exact Step.dropR (L1:=[(b13,_)]) hs.tail.tail.tail) (by exact Step.dropR (L1:=[_,_,_,_]) hs) ?_
     refine ws1 ty35 rfl rfl (hv89.one) hs (fun w hs=>?_)
     refine wZ<|⟨rfl,?_⟩
     refine AL.relax (by kernel_rfl) ?_
     refine AL.end (by kernel_rfl) (by exact Step.dropR (L1:=[(b13,_)]) hs.tail.tail.tail) (trivial) ?_
     replace hs:Step (List.map (·.1) (L++D)) ((b26,blk 132 [v89,.map (some q1),.map (some q2)])::(q1,mapObj M1 k1)::(q2,mapObj M2 k2)::(b13,blk STD (stdC x))::(b5,blk 30 (roomC rm))::(Lv89++(T2++(L2++(Lv++(D1++D)))))) w0 w:=hs
     have hO':OwnSl 44 32 v89 (ordM (t.m++[(x.d,x.dir)])).length (digsL (ordM (t.m++[(x.d,x.dir)]))) Lv89:=by
      rw[ordM_snoc,if_neg hk,length_append,digsL_snoc];exact hv89
     exact⟨rfl,v89,Lv89,hO',hs,rfl,rfl,rfl,rfl,rfl,rfl,rfl,rfl,trivial⟩
    ·cases h
  clear hs
  rintro f w ⟨vO',LO',hO',hs,hf⟩
  have ob:=hf.chain
  obtain⟨g,rfl⟩:=ob
  have hB':MapB s (Lv++(D1++D)) (t.m++[(x.d,x.dir)]) (putM x.d (.slice va (s.get x.d).1.length vc) k1 M1):=hB.put hx32 hHl k1
  refine cq<|CW.quietT (l1:=[_,_,_,_,_,_,_]) (l2:=[_]) 7 rfl mixedP rfl (by kernel_rfl) hs ?_
  refine qm<|qn rfl<|qF 1 u132 rfl ty129 rfl<|qL ty129 rfl (fun w hs=>hs.c0 (v:=.map (some q1)) rfl)<|qF 0 u212 rfl ty44 rfl<|qV (fun w hs=>run_loadN ty44 rfl hxl hs.a3.left)<|qm<|QL.nil (fun w hs=>?_)
  refine WL.mapPut u129 rfl rfl rfl hB.keys hx32 hs.swap (fun w hs=>?_)
  replace hs:=hs.swap
  refine wZ ?_
  replace hs:Step (List.map (·.1) (L++D)) ((b26,blk 132 [vO',.map (some q1),.map (some q2)])::(q1,mapObj (putM x.d (.slice va (s.get x.d).1.length vc) k1 M1) (putC x.d k1 M1))::(q2,mapObj M2 k2)::(b13,blk STD (stdC x))::(b5,blk 30 (roomC rm))::(LO'++(T2++(L2++(Lv++(D1++D)))))) w0 w:=hs
  by_cases hxb:x.dir=false
  ·have hpf:=push_file hxb t
   rw[hpf] at hr hr1 c2
   refine cq<|sr<|wF 32 u212 rfl ty4 rfl<|wl ty4 rfl (hs.c3 h32)<|wV (run_notV hxb)<|wZ<|CW.cond rfl (fun h=>?_) (fun h=>?_)
   ·refine cq<|sr<|wm<|wm<|wL u76 rfl<|wP ((t.b+(s.get x.d).1.length:Nat):Int)<|wA<|wZ ?_
    by_cases c5:rm.b<(t.b:Int)+(s.get x.d).1.length
    ·have hre:=hr1 (visit_bytes c1 c2 c3 hxb c5) (by decide)
     refine sr<|wm<|wF 2 u30 rfl ty3 rfl<|wl ty3 rfl (hs.c4 (v:=.int .i64 rm.b) rfl)<|xT<|wZ<|CW.cond rfl (fun h=>?_) (fun h=>?_)
     ·refine sr<|wA<|wZ<|CW.exit<|sr<|wm<|wA<|wA<|wZ<|CW.ret ?_
      refine fin_ret2 rfl ?_
      exact FwPost.err (D':=Lv++D1) hre (by decide) rfl (by show PRep bp (s.gotN (t.g+1)) _ _;rw[append_assoc];exact hP3) (Step.fin (M:=[]) hw (by rw[append_assoc];exact Step.dropL (Step.dropL (L1:=[_,_,_,_,_]++LO') hs)))
     ·cases h
    have hvf:=visit_file (t:=t) c1 c2 c3 hxb c5
    rw[hvf] at hr
    have hg2:=visit_good (s:=s) (x:=x) (t:=t) hrm (by rw[kOf,if_neg (by simp[hxb])];exact hg) (by rw[hvf])
    rw[hvf] at hg2
    refine sr<|wm<|wF 2 u30 rfl ty3 rfl<|wl ty3 rfl (hs.c4 (v:=.int .i64 rm.b) rfl)<|xF<|wZ<|CW.cond rfl (fun h=>?_) (fun h=>?_)
    ·cases h
    have hs2:=Step.ofMet hs
    have hM2:MetRep b26 s (t.m++[(x.d,x.dir)]) (Lv++(D1++D)) ((b26,blk 132 [vO',.map (some q1),.map (some q2)])::(q1,mapObj (putM x.d (.slice va (s.get x.d).1.length vc) k1 M1) (putC x.d k1 M1))::(q2,mapObj M2 k2)::LO'):=⟨vO',LO',q1,_,_,q2,M2,k2,rfl,hO',hB',by rw[hxb];exact hPm.file⟩
    rw[←append_assoc Lv D1 D] at hs2 hP3 hM2
    refine ck<|CW.exit<|(show _∧_ from⟨rfl,_,?_,rest,((t.node.meet x).byte (s.get x.d).1.length).item ⟨x.p,false,(s.get x.d).1⟩,T2,_,L2,Lv++D1,hr,rfl,hg2,?_,fun y hy=>htd y (by simp[hy]),hS2,hM2,hP3,hs2,rfl,rfl,rfl,rfl,rfl,rfl,trivial⟩)
    ·show 65537 - (t.n+1)<65537 - t.n;omega
    ·show rest.length≤1+(t.n+1)*1024;omega
   ·cases h
  have hxt:x.dir=true:=by simpa using hxb
  refine cq<|sr<|wF 32 u212 rfl ty4 rfl<|wl ty4 rfl (hs.c3 h32)<|wV (run_notV hxt)<|wZ<|CW.cond rfl (fun h=>?_) (fun h=>?_)
  ·cases h
  refine ck<|cq<|sr<|wm<|wE rfl (run_call en78 rfl rfl) (decode_at _ (hHl.sl fun p hp=>hs.has p (mem5 (A:=LO') (B:=T2) (C:=L2) hp)) (by omega)) ?_
  rintro e w ⟨u,Le,rfl,hu,hoks,hle,hq⟩
  refine⟨_,rfl,?_⟩
  replace hs:=Step.call0 hs hq
  refine wm<|wx rfl rfl<|wx rfl rfl<|wA<|wA<|wZ ?_
  by_cases hde:decE (s.get x.d).1≠0
  ·have hre:=hr1 (visit_dec c1 c2 c3 hxt hde) hde
   refine sr<|wm<|wV (run_bT (run_neq rfl rfl) (by exact hde))<|wZ<|CW.cond rfl (fun h=>?_) (fun h=>?_)
   ·refine CW.exit<|sr<|wm<|wA<|wA<|wZ<|CW.ret ?_
    refine fin_ret2 rfl ?_
    exact FwPost.err (D':=Lv++D1) hre hde rfl (by show PRep bp (s.gotN ((push x t).g+1)) _ _;rw[push_g,append_assoc];exact hP3) (Step.fin (M:=[]) hw (by rw[append_assoc];exact Step.dropL (Step.dropL (L1:=[_,_,_,_,_]++LO') (Step.dropL hs))))
   ·cases h
  have hde0:decE (s.get x.d).1=0:=by simpa using hde
  have hvd:=visit_dir (t:=push x t) c1 c2 c3 hxt hde0
  rw[hvd] at hr
  have hg2:=visit_good (s:=s) (x:=x) (t:=push x t) hrm (push_good x hg) (by rw[hvd])
  rw[hvd] at hg2
  replace hr:runs s rm (kids x (s.get x.d).1++rest) ((push x t).node.meet x)=r:=hr
  refine sr<|wm<|wV (run_bF (run_neq rfl rfl) (by exact hde))<|wZ<|CW.cond rfl (fun h=>?_) (fun h=>?_)
  ·cases h
  refine ck<|sr<|WL.buildSlice (cs:=[]) u35 ty44 rfl (by decide) rfl (by rfl) rfl hs (fun b117 w hs=>?_)
  refine wA<|wZ ?_
  have ob:∃l,decL (s.get x.d).1=l:=⟨_,rfl⟩
  obtain⟨l,hll⟩:=ob
  have hk:kids x (s.get x.d).1=l.map (kidOf x):=by rw[kids,hll]
  rw[hk] at hr hvd
  rw[hll] at hu hoks hle
  have ob:=hu.form
  obtain⟨ua,uc,rfl⟩:=ob
  refine cq<|sr<|wm<|wL u116 rfl<|wS (((l.length:Nat):Int) - 1)<|wA<|wZ ?_
  have heq:(push x t).node.meet x=⟨t.n+1,t.b,t.g+1,t.m++[(x.d,x.dir)],(push x t).l⟩:=by unfold push;split <;> rfl
  rw[heq] at hr hg2
  have ob:∃Z0,Z0=(b26,blk 132 [vO',.map (some q1),.map (some q2)])::(q1,mapObj (putM x.d (.slice va (s.get x.d).1.length vc) k1 M1) (putC x.d k1 M1))::(q2,mapObj M2 k2)::(b5,blk 30 (roomC rm))::(LO'++(L2++(Lv++(D1++D)))):=⟨_,rfl⟩
  obtain⟨Z0,hZ0⟩:=ob
  have hs1:=Step.toStk (Y:=_::Le) hs
  rw[←hZ0] at hs1
  clear hs
  refine cB<|CW.loop (fun m f w'=>∃k z T3,k≤l.length∧m=k∧z=(k:Int) - 1∧Stk STK STD 34 b9 ((((l.drop k).map (kidOf x))++rest).map stdC) T3∧Step (List.map (·.1) (L++D)) ((b13,blk STD (stdC x))::(T3++(((b117,blk 44 [])::Le)++Z0))) w0 w'∧Holds f [(0,pt bp),(5,pt b5),(8,pt b26),(9,pt b9),(10,.int .i64 ((t.n+1:Nat):Int)),(11,.int .i64 (t.b:Nat)),(13,pt b13),(16,.slice ua l.length uc),(19,.slice (some ⟨b117,0,none⟩) 0 0),(20,.int .i64 z)]) (m:=l.length) ?_ ?_
  ·exact⟨l.length,_,T2,Nat.le_refl _,rfl,rfl,by rw[drop_length];exact hS2,hs1,rfl,rfl,rfl,rfl,rfl,rfl,rfl,rfl,rfl,rfl,trivial⟩
  clear hs1
  rintro m f w ⟨k,z,T3,hkl,rfl,hz,hS3,hs,hf⟩
  by_cases hk0:m=0
  ·have ob:=hf.chain
   obtain⟨g,rfl⟩:=ob
   refine cq<|sr<|wm<|jF<|wZ<|CW.cond rfl (fun h=>?_) (fun h=>?_)
   ·cases h
   replace hs:=Step.pick hs
   refine CW.exit<|cq<|sr<|wm<|wL u116 rfl<|wm<|wZ ?_
   rw[hk0,drop_zero] at hS3
   refine cB<|CW.loop (fun m f w'=>∃i vp LP,i≤l.length∧m=l.length - i∧OwnSl 44 32 vp i (digsL ((l.take i).map (·.dig))) LP∧Step (List.map (·.1) (L++D)) (LP++((b13,blk STD (stdC x))::(T3++(Le++Z0)))) w0 w'∧Holds f [(0,pt bp),(5,pt b5),(8,pt b26),(9,pt b9),(10,.int .i64 ((t.n+1:Nat):Int)),(11,.int .i64 (t.b:Nat)),(13,pt b13),(19,vp),(141,.slice ua l.length uc),(142,.int .i64 (l.length:Nat)),(143,.int .i64 (i:Nat))]) (m:=l.length) ?_ ?_
   ·exact⟨0,_,[(b117,blk 44 [])],Nat.zero_le _,rfl,OwnSl.mk (b:=b117) (xs:=[]) (k:=0) rfl,hs,rfl,rfl,rfl,rfl,rfl,rfl,rfl,rfl,rfl,rfl,rfl,trivial⟩
   clear hs
   rintro m f w ⟨i,vp,LP,hil,rfl,hvp,hs,hf⟩
   have ob:=hf.chain
   obtain⟨g,rfl⟩:=ob
   by_cases hlt:i<l.length
   ·have ob:=hu.some1 (by omega)
    obtain⟨bu,cu,more,hu1,hu2,hu3⟩:=ob
    cases hu1
    subst hu2
    have ob:∃e,l[i]=e:=⟨_,rfl⟩
    obtain⟨e,he⟩:=ob
    have heo:=hoks e (he▸getElem_mem hlt)
    have hel:(u8s e.dig).length=32:=by rw[u8s,length_map,heo.1]
    have hec:=Ent.cells_len heo
    have hent:At w bu (0+i*34) e.cells:=by
     have h2:=(At.of_blk (hs.has (bu,blk 115 (rows l++more)) (by simp))).left.ent hoks hlt
     rw[he] at h2;exact h2
    refine sr<|lT<|wZ<|cq<|CW.cond rfl (fun h=>?_) (fun h=>?_)
    ·refine ck<|cq<|cB<|sr<|wI u116 ty115 rfl rfl<|wR ty115 rfl hec hent<|WL.alloc ty115 rfl hs (fun b22 w hs=>?_)
     refine WL.storeAll ty115 rfl rfl ((hec)) ((e.cells1)) hs (by rfl) (fun w hs=>?_)
     refine wZ<|cr<|wm<|wF 2 u115 rfl ty44 rfl<|wR ty44 rfl hel (hs.a0.drop 2)<|WL.buildSlice (cs:=u8s e.dig) u35 ty44 rfl (by decide) rfl (filled1 hel rfl) rfl hs (fun b150 w hs=>?_)
     have hsl150:Sl w 32 (.slice (some ⟨b150,0,none⟩) 1 1) 1 (u8s e.dig):=.own1 hs (by rw[hel])
     replace hs:=Step.in2 hs
     refine WL.append u35 u35 ty44 rfl (by decide) rfl rfl (hvp) (hs) (hsl150) (Cells1.u8s _) (by omega) rfl (fun v151 Lv151 w hv151 hs=>?_)
     replace hs:=Step.out2 hs
     refine wA<|wZ<|cr<|wP ((i+1:Nat):Int)<|wm<|wZ ?_
     have hv2:OwnSl 44 32 v151 (i+1) (digsL ((l.take (i+1)).map (·.dig))) Lv151:=by
      rw[take_succ_eq_append_getElem hlt,he,map_append,map_singleton,digsL_snoc];exact hv151
     refine(show _∧_ from⟨rfl,_,?_,i+1,v151,Lv151,hlt,rfl,hv2,hs,rfl,rfl,rfl,rfl,rfl,rfl,rfl,rfl,rfl,rfl,rfl,trivial⟩)
     omega
    ·cases h
   ·obtain rfl:i=l.length:=by omega
    rw[take_length] at hvp
    refine sr<|lF<|wZ<|cq<|CW.cond rfl (fun h=>?_) (fun h=>?_)
    ·cases h
    rw[hZ0] at hs
    replace hs:=Step.ofStk (Z:=LP) (T:=T3) (Y:=Le) hs
    have hpd:l.map (·.dig)=partsD s x.d:=by rw[partsD,hll]
    have hHP:HeldP (LP++(Lv++(D1++D))) vp (partsD s x.d):=⟨LP,by rw[←hpd,length_map];exact hvp,fun p hp=>mem_append_left _ hp⟩
    refine CW.exit<|CW.quietT (l1:=[_,_,_,_,_,_,_]) (l2:=[_]) 7 rfl mixedP rfl (by kernel_rfl) hs ?_
    refine qm<|qn rfl<|qF 2 u132 rfl ty130 rfl<|qL ty130 rfl (fun w hs=>hs.c0 (v:=.map (some q2)) rfl)<|qF 0 u212 rfl ty44 rfl<|qV (fun w hs=>run_loadN ty44 rfl hxl hs.a3.left)<|qm<|QL.nil (fun w hs=>?_)
    refine WL.mapPut u130 rfl rfl rfl hPm.keys hx32 hs.rot3 (fun w hs=>?_)
    replace hs:=hs.rot3.rot3
    refine wZ ?_
    replace hs:Step (List.map (·.1) (L++D)) ((b26,blk 132 [vO',.map (some q1),.map (some q2)])::(q1,mapObj (putM x.d (.slice va (s.get x.d).1.length vc) k1 M1) (putC x.d k1 M1))::(q2,mapObj (putM x.d vp k2 M2) (putC x.d k2 M2))::(b13,blk STD (stdC x))::(b5,blk 30 (roomC rm))::(LO'++(T3++(LP++(L2++(Lv++(D1++D))))))) w0 w:=hs
    have hs2:=Step.partsIn (M:=_::_::_::LO') (Z:=LP) (L:=L2) (A:=Lv) (B:=D1) (Step.ofMet hs)
    have hM2:MetRep b26 s (t.m++[(x.d,x.dir)]) (LP++(Lv++(D1++D))) ((b26,blk 132 [vO',.map (some q1),.map (some q2)])::(q1,mapObj (putM x.d (.slice va (s.get x.d).1.length vc) k1 M1) (putC x.d k1 M1))::(q2,mapObj (putM x.d vp k2 M2) (putC x.d k2 M2))::LO'):=⟨vO',LO',q1,_,_,q2,_,_,rfl,hO',hB'.mono mem_right,by rw[hxt];exact(hPm.mono mem_right).put hx32 hHP k2⟩
    have hP4:PRep bp (s.gotN (t.g+1)) (LP++(Lv++(D1++D))) L2:=hP3.mono mem_right
    have e1:LP++(Lv++(D1++D))=(LP++(Lv++D1))++D:=by simp[append_assoc]
    rw[e1] at hM2 hP4
    refine(show _∧_ from⟨rfl,_,?_,(l.map (kidOf x))++rest,⟨t.n+1,t.b,t.g+1,t.m++[(x.d,x.dir)],(push x t).l⟩,T3,_,L2,LP++(Lv++D1),hr,rfl,hg2,?_,?_,hS3,hM2,hP4,hs2,rfl,rfl,rfl,rfl,rfl,rfl,trivial⟩)
    ·show 65537 - (t.n+1)<65537 - t.n;omega
    ·show((l.map (kidOf x))++rest).length≤1+(t.n+1)*1024
     rw[length_append,length_map];omega
    ·intro y hy
     rcases mem_append.1 hy with hy | hy
     ·have ob:=mem_map.1 hy
      obtain⟨e,he,rfl⟩:=ob
      exact⟨(hoks e he).1,by show x.dep+1≤33;omega⟩
     ·exact htd y (by simp[hy])
  ·have ob:∃j,m=j+1:=⟨m - 1,by omega⟩
   obtain⟨j,rfl⟩:=ob
   obtain rfl:z=((j:Nat):Int):=by omega
   have ob:=hf.chain
   obtain⟨g,rfl⟩:=ob
   have hlt:j<l.length:=by omega
   have ob:=hu.some1 (by omega)
   obtain⟨bu,cu,more,hu1,hu2,hu3⟩:=ob
   cases hu1
   subst hu2
   have ob:∃e,l[j]=e:=⟨_,rfl⟩
   obtain⟨e,he⟩:=ob
   have heo:=hoks e (he▸getElem_mem hlt)
   have hel:(u8s e.dig).length=32:=by rw[u8s,length_map,heo.1]
   have hent:∀{T:OL}{w:World},Step (List.map (·.1) (L++D)) ((b13,blk STD (stdC x))::(T++(((b117,blk 44 [])::[(bu,blk 115 (rows l++more))])++Z0))) w0 w→At w bu (0+j*34) e.cells:=fun h=>by
    have h2:=(At.of_blk (h.has (bu,blk 115 (rows l++more)) (by simp))).left.ent hoks hlt
    rw[he] at h2;exact h2
   have hdr:(((l.drop j).map (kidOf x))++rest).map stdC=stdC (kidOf x e)::(((l.drop (j+1)).map (kidOf x))++rest).map stdC:=by
    rw[drop_eq_getElem_cons hlt,he];rfl
   have hlen3:((((l.drop (j+1)).map (kidOf x))++rest).map stdC).length<1000000000:=by
    rw[length_map,length_append,length_map,length_drop];omega
   refine cq<|sr<|wm<|jT<|wZ<|CW.cond rfl (fun h=>?_) (fun h=>?_)
   ·refine ck<|cq<|cB<|CW.quietT (l1:=[_,_,_,_,_,_,_,_,_,_,_,_,_,_,_]) (l2:=[_]) 15 rfl mixedP rfl (by kernel_rfl) hs ?_
    refine qm<|qm<|qI u116 ty115 rfl rfl<|qF 2 u115 rfl ty44 rfl<|qV (fun w hs=>run_loadN ty44 rfl hel ((hent hs).drop 2))<|qm<|qm<|qI u116 ty115 rfl rfl<|qF 1 u115 rfl ty3 rfl<|qL ty3 rfl (fun w hs=>(hent hs).cell (j:=1) rfl)<|qV (fun w hs=>run_eql rfl rfl)<|qF 33 u212 rfl ty3 rfl<|qL ty3 rfl (fun w hs=>hs.c0 h33)<|qV (fun w hs=>run_add (c:=((x.dep+1:Nat):Int)) rfl rfl (by omega) (by omega)) ?_
    refine qV (fun w hs=>run_build rfl (bld_std heo.1 _ _ _))<|QL.nil (fun w hs=>?_)
    refine wE rfl (run_call en116 rfl rfl) (pushstanding_spec (c:=stdC (kidOf x e)) hS3 (stdC_len (x:=kidOf x e) heo.1) (stdC_c1 _) hlen3 (Lives.of (L1:=T3) hs.tail)) ?_
    rintro e w ⟨T4,rfl,hS4,hq⟩
    refine⟨_,rfl,?_⟩
    replace hs:=Own.set (A:=[_]) (L:=T3) hs hq
    refine wZ<|cr<|wm<|wS (((j:Nat):Int) - 1)<|wA<|wZ<|(show _∧_ from⟨rfl,_,?_,j,_,T4,by omega,rfl,rfl,by rw[hdr];exact hS4,hs,rfl,rfl,rfl,rfl,rfl,rfl,rfl,rfl,rfl,rfl,trivial⟩)
    omega
   ·cases h
end
section
variable{bp br:Nat}{s:AS}{D D' L R:OL}{w0:World}
set_option maxHeartbeats 4000000 in
theorem alike9_spec{g0:Nat} (hR:PRep bp s D L) (hT:RRep br { s with gets:=g0 } D' R) (ok:s.Ok) (hw:Lives (L++D) w0) (hw2:Lives (R++D') w0):CP 22 #[pt bp,pt br] w0 (Ret0 (.bool true) w0):=by
 have hul:=used_len s.X
 have hou:=ok.used
 have hs:Step [] [] w0 w0:=Step.refl w0
 have ok2:({ s with gets:=g0 }:AS).Ok:=⟨ok.k1,ok.k2,ok.cap,ok.sorted,ok.len,ok.used⟩
 have ob:=hT.open ok2 hw2
 obtain⟨ra,rc,Lr,T,o⟩:=ob
 have hat:∀{w},Step [] [] w0 w→At w br 0 (rsC s.k s.cap s.last (.slice ra s.X.length rc) g0 s.puts):=fun h=>At.of_blk (o.step h).hb
 refine callsM (n:=98) Tryz.func22 rfl rfl rfl ?_
 refine sr<|WL.box rfl (rfl) rfl hs (fun b2 w hs=>?_)
 refine WL.box rfl (rfl) rfl hs (fun b3 w hs=>?_)
 refine WL.alloc ty4 rfl hs (fun b4 w hs=>?_)
 refine wZ<|sr<|wl ty39 rfl (hs.c2 (v:=pt bp) rfl)<|wE rfl (run_call en31 rfl rfl) (all_abs hR ok (hw.after hs.clear)) ?_
 rintro e w ⟨bq,lv,Lv,Q,rfl,ha1,ha2,ha3,hq⟩
 refine⟨_,rfl,?_⟩
 replace hs:=(Step.call0 hs hq).append_comm (L1:=_::Lv) (L2:=[_,_,_])
 refine wA<|wZ<|cq<|cq<|CW.quiet mixedP (by kernel_rfl) hs ?_
 refine qm<|qV (fun w hs=>run_funcNil u72 rfl rfl)<|qm<|qy<|qL ty39 rfl (fun w hs=>hs.c2 (v:=pt bp) rfl)<|qy<|QL.enter rfl (fun w=>run_call en29 rfl rfl) (fun w hs=>len_abs hR ok (hw.after hs.clear)) ?_
 refine qy<|qL ty40 rfl (fun w hs=>hs.c1 (v:=pt br) rfl)<|qy<|qn rfl<|qy<|qF 3 u54 rfl ty52 rfl<|qy<|qL ty52 rfl (fun w hs=>(hat hs.clear).cell (j:=3) rfl)<|qy<|qV (fun w hs=>run_lenSl u52 rfl)<|qy<|qV (fun w hs=>run_bF (run_neq rfl rfl) (by exact fun h=>h rfl))<|qP<|qm ?_
 refine qy<|qL ty39 rfl (fun w hs=>hs.c2 (v:=pt bp) rfl)<|qy<|QL.enter rfl (fun w=>run_call en55 rfl rfl) (fun w hs=>used_abs hR ok (hw.after hs.clear)) ?_
 refine qy<|qL ty40 rfl (fun w hs=>hs.c1 (v:=pt br) rfl)<|qy<|QL.enter rfl (fun w=>run_call en67 rfl rfl) (fun w hs=>rused_spec (o.step hs.clear) ok2) ?_
 refine qy<|qV (fun w hs=>run_bF (run_neq rfl rfl) (by exact fun h=>h rfl))<|qP<|qm<|qy<|qL ty39 rfl (fun w hs=>hs.c2 (v:=pt bp) rfl)<|qy<|QL.enter rfl (fun w=>run_call en68 rfl rfl) (fun w hs=>cap_abs hR ok (hw.after hs.clear)) ?_
 refine qy<|qL ty40 rfl (fun w hs=>hs.c1 (v:=pt br) rfl)<|qy<|qn rfl<|qy<|qF 1 u54 rfl ty3 rfl<|qy<|qL ty3 rfl (fun w hs=>(hat hs.clear).cell (j:=1) rfl)<|qy<|qV (fun w hs=>run_bF (run_neq rfl rfl) (by exact fun h=>h rfl))<|qP<|QL.nil (fun w hs=>?_)
 refine CW.cond rfl (fun h=>?_) (fun h=>?_)
 ·cases h
 refine ck<|sr<|WL.alloc ty3 rfl hs (fun b6 w hs=>?_)
 refine ws1 ty3 rfl rfl (rfl) hs (fun w hs=>?_)
 refine wZ<|cq<|sr<|wm<|wZ<|cB<|CW.rangeFunc2 (cap:=[pt bq]) en82 rfl hs ?_
 intro l b0 r w2 hrec hrs hrp hs2
 clear hs
 refine(all2_iter (b3:=bq) (lv:=lv) (R:=Q) (X:=s.X.map fun b=>(b.d,b.x)) w2
  (J:=fun k L W=>L=[(l,.loop r),(b0,.deferred (some [])),(b6,blk 3 [.int .i64 (k:Nat)]),(b4,blk 4 [.bool false])]∧Step [] (L++((b3,blk 40 [pt br])::(b2,blk 39 [pt bp])::(bq,blk 156 [lv])::Lv)) w0 W)
  (Jx:=fun _=>False) (L0:=[(l,.loop r),(b0,.deferred (some [])),(b6,blk 3 [.int .i64 0]),(b4,blk 4 [.bool false])]) ?_ ?_ ?_ ?_).mono ?_
 ·rintro k L W W' ⟨rfl,hs⟩ h'
  exact⟨rfl,hs.callE h'⟩
 ·rintro k L W ⟨rfl,hs⟩
  exact seqOk_of (Y:=[_,_,_,_,_,_]) ok hw ha1 ha2 ha3 hs
 ·exact⟨rfl,hs2⟩
 ·rintro k d x L' W W1 v' Lv' hx ⟨rfl,hs⟩ hst hu'
  obtain⟨b,hb,hbd,hbx⟩:∃b,s.X[k]?=some b∧b.d=d∧b.x=x:=by
   rw[getElem?_map] at hx
   cases hb:s.X[k]? with
   | none=>rw[hb] at hx;cases hx
   | some b=>
    rw[hb] at hx
    simp only[Option.map_some,Option.some.injEq,Prod.mk.injEq] at hx
    exact⟨b,rfl,hx.1,hx.2⟩
  subst hbd hbx
  have hkl:=(List.getElem?_eq_some_iff.1 hb).1
  have hd32:=ok.len b (mem_of_getElem? hb)
  have hdl:(u8s b.d).length=32:=by rw[u8s,length_map,hd32]
  have hm:=used_mem (mem_of_getElem? hb)
  have hW1:=Step.call0 hs hst
  rw[←append_assoc] at hW1
  have hsW:=Step.append_comm (L1:=Lv') (L2:=[_,_,_,_]) (Step.own hW1)
  have ob:=hu'.form
  obtain⟨va,vc,rfl⟩:=ob
  refine yields_of2 (n:=98) hrec hrs rfl rfl hsW ?_
  have hs:=hsW
  refine CWI.seq ?_
  refine CWI.reg rfl (fun _ _ _ h=>h) ?_
  refine WL.alloc ty44 rfl hs (fun b7 w hs=>?_)
  refine WL.storeAll ty44 rfl rfl ((hdl)) (Cells1.u8s _) hs (by rfl) (fun w hs=>?_)
  refine wZ<|CWI.reg rfl (fun _ _ _ h=>h) ?_
  refine wA<|wZ ?_
  have ob:=o.row hb
  obtain⟨bv,rv,hra,hrv,hrow⟩:=ob
  subst hra
  have hcl:∀{Y w},Step ((Lv'++[(l,Obj.loop r),(b0,.deferred (some [])),(b6,blk 3 [.int .i64 (k:Nat)]),(b4,blk 4 [.bool false])]).map (·.1)) Y W1 w→Step [] [] w0 w:=fun h=>(Step.call hW1 h).clear
  have hb3:∀{Y w},Step ((Lv'++[(l,Obj.loop r),(b0,.deferred (some [])),(b6,blk 3 [.int .i64 (k:Nat)]),(b4,blk 4 [.bool false])]).map (·.1)) Y W1 w→w.cell? ⟨b3,0,none⟩=some (pt br):=fun h=>by
   have h2:=(Step.call hW1 h).has (b3,blk 40 [pt br]) (by simp)
   rw[cell_blk h2];rfl
  have hb2:∀{Y w},Step ((Lv'++[(l,Obj.loop r),(b0,.deferred (some [])),(b6,blk 3 [.int .i64 (k:Nat)]),(b4,blk 4 [.bool false])]).map (·.1)) Y W1 w→w.cell? ⟨b2,0,none⟩=some (pt bp):=fun h=>by
   have h2:=(Step.call hW1 h).has (b2,blk 39 [pt bp]) (by simp)
   rw[cell_blk h2];rfl
  have hro:∀{w},Step [] [] w0 w→At w bv (0+k*34) (rbC (b.d,rv,b.st)):=fun h=>hrow.step h (by simp)
  have hst2:=fun {w} (h:Step [] [] w0 w)=>stamp_abs (d:=b.d) hR ok (hw.after h) hd32
  have hsv:s.stamp b.d=b.st:=by unfold AS.stamp;rw[findX_mem ok.sorted.nodup (mem_of_getElem? hb)]
  rw[hsv] at hst2
  have hgot:Held Lv' (.slice va b.x.length vc) b.x:=⟨Lv',hu',fun p hp=>hp⟩
  refine⟨_,_,_,_,hs.swap,hrs,fun w3 hs=>?_⟩
  refine CWI.block<|CWI.seq<|CWI.seq ?_
  refine CWI.quiet rfl (fun _ _ _ h=>h) mixedP (by kernel_rfl) hs ?_
  refine qL ty3 rfl (fun w hs=>hs.c3 rfl)<|qL ty40 rfl (fun w hs=>hb3 hs)<|qn rfl<|qF 3 u54 rfl ty52 rfl<|qL ty52 rfl (fun w hs=>(hat (hcl hs)).cell (j:=3) rfl)<|qV (fun w hs=>run_lenSl u52 rfl)<|qV (fun w hs=>run_bF (run_geq rfl rfl) (by omega))<|qm<|qy<|qV (fun w hs=>run_loadN ty44 rfl hdl hs.a1)<|qy<|qL ty40 rfl (fun w hs=>hb3 hs)<|qy<|qn rfl ?_
  refine qy<|qF 3 u54 rfl ty52 rfl<|qy<|qL ty52 rfl (fun w hs=>(hat (hcl hs)).cell (j:=3) rfl)<|qy<|qL ty3 rfl (fun w hs=>hs.c3 rfl) ?_
  refine qy ?_;(first | refine QL.val rfl (fun w hs=>run_ixSlN u52 ty80 rfl rfl (by omega)) ?_ | refine QL.val rfl (fun w hs=>run_ixSl u52 ty80 rfl rfl (by omega)) ?_)
  refine qy<|qF 0 u80 rfl ty44 rfl<|qy<|qV (fun w hs=>run_loadN ty44 rfl hdl (by have h:=(hro (hcl hs)).take 32;rw[rbC_fst hd32] at h;exact h))<|qy<|qV (fun w hs=>run_bF (run_neDig hd32 hd32 rfl rfl) (fun h=>h rfl))<|qP<|qm<|qy<|qm<|qy<|qV (fun w hs=>run_toString u76 u9 u5 rfl (hgot.sl fun p hp=>hs.has p (by simp[hp])))<|qy<|qL ty40 rfl (fun w hs=>hb3 hs) ?_
  refine qy<|qn rfl<|qy<|qF 3 u54 rfl ty52 rfl<|qy<|qL ty52 rfl (fun w hs=>(hat (hcl hs)).cell (j:=3) rfl)<|qy<|qL ty3 rfl (fun w hs=>hs.c3 rfl) ?_
  refine qy ?_;(first | refine QL.val rfl (fun w hs=>run_ixSlN u52 ty80 rfl rfl (by omega)) ?_ | refine QL.val rfl (fun w hs=>run_ixSl u52 ty80 rfl rfl (by omega)) ?_)
  refine qy<|qF 32 u80 rfl ty76 rfl<|qy<|qL ty76 rfl (fun w hs=>(hro (hcl hs)).cell (rbC_32 hd32))<|qy<|qV (fun w hs=>run_toString u76 u9 u5 rfl (hrv.sl fun p hp=>(hw2.after (hcl hs)).has p (by simp[hp])))<|qy<|qV (fun w hs=>run_bF (run_strNe rfl rfl) (by exact fun h=>h rfl))<|qP<|qm<|qy<|qL ty39 rfl (fun w hs=>hb2 hs)<|qy<|qV (fun w hs=>run_loadN ty44 rfl hdl hs.a1) ?_
  refine qy<|QL.enter rfl (fun w=>run_call en50 rfl rfl) (fun w hs=>hst2 (hcl hs)) ?_
  refine qy<|qL ty40 rfl (fun w hs=>hb3 hs)<|qy<|qn rfl<|qy<|qF 3 u54 rfl ty52 rfl<|qy<|qL ty52 rfl (fun w hs=>(hat (hcl hs)).cell (j:=3) rfl)<|qy<|qL ty3 rfl (fun w hs=>hs.c3 rfl) ?_
  refine qy ?_;(first | refine QL.val rfl (fun w hs=>run_ixSlN u52 ty80 rfl rfl (by omega)) ?_ | refine QL.val rfl (fun w hs=>run_ixSl u52 ty80 rfl rfl (by omega)) ?_)
  refine qy<|qF 33 u80 rfl ty3 rfl<|qy<|qL ty3 rfl (fun w hs=>(hro (hcl hs)).cell (rbC_33 hd32))<|qy<|qV (fun w hs=>run_bF (run_neq rfl rfl) (by exact fun h=>h rfl))<|qP<|QL.nil (fun w hs=>?_)
  refine CWI.condF rfl<|CWI.skip ?_
  refine CWI.reg rfl (fun _ _ _ h=>h) ?_
  refine wl ty3 rfl (hs.c3 rfl)<|wP ((k+1:Nat):Int)<|WL.store1_3 ty3 rfl rfl (rfl) hs (by first | (simp;done) | omega | (simp only[length_append,length_replicate,length_cons,length_nil,length_set];omega) | (simp[Ent.cells,u8s];done) | exact Nat.le_of_ble_eq_true rfl) (fun w hs=>?_)
  refine wZ<|⟨_,_,_,_,hs,fun w' hs'=>?_⟩
  rw[Loop.at_back hrs hrp] at hs'
  rw[if_pos rfl]
  have hs4:=Step.dropR (L1:=[_,_,_,_]) hs'.swap.tail
  exact⟨_,hs4,rfl,Step.call hW1 hs4⟩
 ·rintro e w' ⟨hret,⟨L',rfl,hs⟩ | h⟩
  ·refine⟨hret,behind_none hs hrs hrp fun w hs=>?_⟩
   simp only[length_map] at hs
   replace hs:=hs.swap
   refine cq<|CW.quietT (l1:=[_,_,_,_,_,_,_]) (l2:=[_]) 7 rfl mixedP rfl (by kernel_rfl) hs ?_
   refine qL ty3 rfl (fun w hs=>hs.c2 rfl)<|qL ty40 rfl (fun w hs=>hs.c4 (v:=pt br) rfl)<|qn rfl<|qF 3 u54 rfl ty52 rfl<|qL ty52 rfl (fun w hs=>(hat hs.clear).cell (j:=3) rfl)<|qV (fun w hs=>run_lenSl u52 rfl)<|qV (fun w hs=>run_bT (run_eql rfl rfl) (by rfl))<|QL.nil (fun w hs=>?_)
   refine WL.store1_3 ty4 rfl rfl (rfl) hs (by first | (simp;done) | omega | (simp only[length_append,length_replicate,length_cons,length_nil,length_set];omega) | (simp[Ent.cells,u8s];done) | exact Nat.le_of_ble_eq_true rfl) (fun w hs=>?_)
   refine wZ<|CW.ret ?_
   refine finM_ret (bs:=[b0]) (.inl rfl) hs fun a ha w2 hs2=>⟨_,res_cell1 ha rfl rfl (run_loadVar1 ty4 (hs2.c3 rfl)),rfl,hs2.clear⟩
  ·exact h.elim
theorem alike8_spec (hR:PRep bp s D L) (hT:RRep br s D' R) (ok:s.Ok) (hw:Lives (L++D) w0) (hw2:Lives (R++D') w0):CP 22 #[pt bp,pt br] w0 (Ret0 (.bool true) w0):=alike9_spec (g0:=s.gets) hR hT ok hw hw2
end
theorem roundL_spec{a:Int}{n:Nat} (h:0<n) (hn:n<1099511627776) (ha : -9223372036854775808≤a∧a≤9223372036854775807) (w0:World):CP 46 #[.int .i64 a,.int .i64 (n:Nat)] w0 (Ret0 (.int .i64 (roundZ a n:Nat)) w0):=by
 have hs:Step [] [] w0 w0:=Step.refl w0
 have h1:=Int.emod_nonneg a (show(n:Int)≠0 by omega)
 have h2:=Int.emod_lt_of_pos a (show(0:Int)<n by omega)
 have ht:a.tmod n=a % n∨a.tmod n=a % n - n:=by
  rw[Int.tmod_eq_emod]
  split
  ·left;omega
  ·right;simp[Int.natAbs]
 have hrz:((roundZ a n:Nat):Int)=a % n:=by unfold roundZ;omega
 by_cases hneg:a.tmod n<0
 ·have e:a.tmod n+n=(roundZ a n:Nat):=by omega
  refine calls (n:=15) Tryz.func46 rfl rfl rfl ?_
  refine sr<|wA<|wZ<|sr<|wm<|wm<|wV (run_rem rfl rfl (by omega))<|wA<|wZ<|cq<|sr<|wm<|wV (run_bT (run_lss rfl rfl) (by exact hneg))<|wZ ?_
  refine CW.cond rfl (fun h=>?_) (fun h=>?_)
  ·skip
   refine cr<|wm<|wm<|wP ((roundZ a n:Nat):Int)<|wA<|wZ<|sr<|wm<|wA<|wZ<|CW.ret ?_
   refine fin_ret1 rfl ?_
   exact⟨rfl,hs⟩
  ·cases h
 ·have e:a.tmod n=(roundZ a n:Nat):=by omega
  refine calls (n:=15) Tryz.func46 rfl rfl rfl ?_
  refine sr<|wA<|wZ<|sr<|wm<|wm<|wV (run_rem rfl rfl (by omega))<|wA<|wZ<|cq<|sr<|wm<|wV (run_bF (run_lss rfl rfl) (by exact hneg))<|wZ ?_
  refine CW.cond rfl (fun h=>?_) (fun h=>?_)
  ·cases h
  refine ck<|sr<|wm<|wA<|wZ<|CW.ret ?_
  refine fin_ret1 rfl ?_
  exact⟨congrArg (fun z=>Ending.returned (.int .i64 z)) e,hs⟩
structure Dgs (w:World) (v:Value) (l:List (List UInt8)):Prop where
 sl:Sl w 32 v l.length (digsL l)
 len:∀d∈l,d.length=32
 small:l.length<1099511627776
theorem digsL_at:∀{l:List (List UInt8)},(∀d∈l,d.length=32)→∀{w:World}{b off:Nat},At w b off (digsL l)→∀{i:Nat}{d:U8},l[i]?=some d→At w b (off+i*32) (u8s d)
 | [],_,w,b,off,_,i,d,h=>by simp at h
 | x::l,hl,w,b,off,ha,0,d,h=>by
  rw[getElem?_cons_zero] at h
  obtain rfl:=Option.some.inj h
  rw[Nat.zero_mul,Nat.add_zero]
  rw[digsL,flatMap_cons] at ha
  exact ha.left
 | x::l,hl,w,b,off,ha,i+1,d,h=>by
  rw[digsL,flatMap_cons] at ha
  have h2:=ha.right
  have hx:(u8s x).length=32:=by rw[u8s,length_map,hl x (by simp)]
  rw[hx] at h2
  have h3:=digsL_at (l:=l) (fun d hd=>hl d (by simp[hd])) h2 (i:=i) (d:=d) h
  rw[show off+(i+1)*32=off+32+i*32 by omega]
  exact h3
theorem Dgs.at{w:World}{v:Value}{l:List (List UInt8)} (h:Dgs w v l){i:Nat}{d:U8} (hi:l[i]?=some d):∃b off c,v=.slice (some ⟨b,off,none⟩) l.length c∧At w b (off+i*32) (u8s d):=by
 have ob:=h.sl
 obtain⟨_,⟨a,c,rfl,h0⟩ | ⟨b,off,c,rfl,ha⟩⟩:=ob
 ·rw[eq_nil_of_length_eq_zero h0] at hi;simp at hi
 ·exact⟨b,off,c,rfl,digsL_at h.len ha hi⟩
theorem Dgs.form{w:World}{v:Value}{l:List (List UInt8)} (h:Dgs w v l):∃a c,v=.slice a l.length c:=by
 have ob:=h.sl
 obtain⟨_,⟨a,c,rfl,h0⟩ | ⟨b,off,c,rfl,ha⟩⟩:=ob
 ·exact⟨a,c,by rw[h0]⟩
 ·exact⟨_,c,rfl⟩
theorem Dgs.own{w:World}{v:Value}{l:List (List UInt8)}{Lv:OL} (h:OwnSl 44 32 v l.length (digsL l) Lv) (hw:∀p∈Lv,w.heap[p.1]?=some p.2) (hl:∀d∈l,d.length=32) (hs:l.length<1099511627776):Dgs w v l:=by
 refine⟨?_,hl,hs⟩
 obtain⟨h1,⟨rfl,h0,rfl⟩ | ⟨b,cap,more,rfl,rfl,h3⟩⟩:=h
 ·rw[eq_nil_of_length_eq_zero h0];exact Sl.nil _ _ _
 ·exact Sl.mk h1 (At.of_blk (hw (b,blk 44 (digsL l++more)) (by simp))).left
set_option maxHeartbeats 4000000 in
theorem hasR_spec{v:Value}{l:List (List UInt8)}{d:U8}{w0:World} (hv:Dgs w0 v l) (hd:d.length=32):CP 66 #[v,.agg (u8s d).toArray] w0 (Ret0 (.bool (decide (d∈l))) w0):=by
 have hs:Step [] [] w0 w0:=Step.refl w0
 have hdl:(u8s d).length=32:=by rw[u8s,length_map,hd]
 have ob:=hv.form
 obtain⟨a,c,rfl⟩:=ob
 have hsm:=hv.small
 have ob:∃r,decide (d∈l)=r:=⟨_,rfl⟩
 obtain⟨r,hr⟩:=ob
 rw[hr]
 refine calls (n:=18) Tryz.func66 rfl rfl rfl ?_
 refine sr<|WL.box (cs:=u8s d) rfl rfl rfl hs (fun b3 w hs=>?_)
 refine wA<|wZ<|cq<|sr<|wA<|wZ<|cB<|CW.loop (fun m f w'=>∃i,i≤l.length∧m=l.length - i∧d∉l.take i∧Step [] [(b3,blk 44 (u8s d))] w0 w'∧Holds f [(0,.slice a l.length c),(3,pt b3),(5,.int .i64 (i:Nat))]) (m:=l.length) ?_ ?_
 ·exact⟨0,Nat.zero_le _,rfl,by simp,hs,rfl,rfl,rfl,trivial⟩
 ·rintro m f w ⟨i,hi,rfl,hno,hs,hf⟩
  have ob:=hf.chain
  obtain⟨g,rfl⟩:=ob
  by_cases hlt:i<l.length
  ·have ob:∃e,l[i]?=some e:=⟨_,getElem?_eq_getElem hlt⟩
   obtain⟨e,he⟩:=ob
   have ob:=hv.at he
   obtain⟨b,off,c',hb,hat⟩:=ob
   cases hb
   have hel:=hv.len e (mem_of_getElem? he)
   have hel2:(u8s e).length=32:=by rw[u8s,length_map,hel]
   have htk:l.take (i+1)=l.take i++[e]:=by rw[take_add_one,he];rfl
   refine cq<|sr<|wm<|wm<|wL u35 rfl<|lT<|wZ<|CW.cond rfl (fun h=>?_) (fun h=>?_)
   ·by_cases hed:e=d
    ·refine ck<|cq<|cB<|cq<|CW.quiet mixedP (by kernel_rfl) hs ?_
     refine qm<|qm<|qI u35 ty44 rfl rfl<|qV (fun w hs=>run_loadN ty44 rfl hel2 (hat.step hs.clear (by simp)))<|qV (fun w hs=>run_loadN ty44 rfl hdl hs.a0)<|qV (fun w hs=>run_bT (run_eqDig hel hd rfl rfl) hed)<|QL.nil (fun w hs=>?_)
     refine CW.cond rfl (fun h=>?_) (fun h=>?_)
     ·refine sr<|wA<|wZ<|CW.ret ?_
      refine fin_ret1 rfl ?_
      have hm:d∈l:=hed▸mem_of_getElem? he
      exact⟨congrArg (fun b=>Ending.returned (.bool b)) (by rw[←hr];simp[hm]),hs.clear⟩
     ·cases h
    ·refine ck<|cq<|cB<|cq<|CW.quiet mixedP (by kernel_rfl) hs ?_
     refine qm<|qm<|qI u35 ty44 rfl rfl<|qV (fun w hs=>run_loadN ty44 rfl hel2 (hat.step hs.clear (by simp)))<|qV (fun w hs=>run_loadN ty44 rfl hdl hs.a0)<|qV (fun w hs=>run_bF (run_eqDig hel hd rfl rfl) hed)<|QL.nil (fun w hs=>?_)
     refine CW.cond rfl (fun h=>?_) (fun h=>?_)
     ·cases h
     refine ck<|cr<|wm<|wP ((i+1:Nat):Int)<|wA<|wZ<|(show _∧_ from⟨rfl,_,?_,i+1,hlt,rfl,?_,hs,rfl,rfl,rfl,trivial⟩)
     ·omega
     ·rw[htk,mem_append,mem_singleton]
      exact fun h=>h.elim hno (fun h=>hed h.symm)
   ·cases h
  ·obtain rfl:i=l.length:=by omega
   rw[take_length] at hno
   refine cq<|sr<|wm<|wm<|wL u35 rfl<|lF<|wZ<|CW.cond rfl (fun h=>?_) (fun h=>?_)
   ·cases h
   refine CW.exit<|sr<|wA<|wZ<|CW.ret ?_
   refine fin_ret1 rfl ?_
   exact⟨congrArg (fun b=>Ending.returned (.bool b)) (by rw[←hr];simp[hno]),hs.clear⟩
set_option maxHeartbeats 4000000 in
theorem sameD_spec{u v:Value}{l m:List (List UInt8)}{w0:World} (hu:Dgs w0 u l) (hv:Dgs w0 v m):CP 20 #[u,v] w0 (Ret0 (.bool (decide (l=m))) w0):=by
 have hs:Step [] [] w0 w0:=Step.refl w0
 have ob:=hu.form
 obtain⟨a,c,rfl⟩:=ob
 have ob:=hv.form
 obtain⟨a2,c2,rfl⟩:=ob
 have hsm:=hu.small
 have hsm2:=hv.small
 have ob:∃r,decide (l=m)=r:=⟨_,rfl⟩
 obtain⟨r,hr⟩:=ob
 rw[hr]
 by_cases hlen:l.length=m.length
 ·refine calls (n:=26) Tryz.func20 rfl rfl rfl ?_
  refine sr<|wA<|wZ<|cq<|sr<|wm<|wL u35 rfl<|wm<|wL u35 rfl<|nF<|wZ<|CW.cond rfl (fun h=>?_) (fun h=>?_)
  ·cases h
  refine ck<|cq<|sr<|wA<|wZ<|cB<|CW.loop (fun z f w'=>∃i,i≤l.length∧z=l.length - i∧l.take i=m.take i∧Step [] [] w0 w'∧Holds f [(0,.slice a l.length c),(1,.slice a2 m.length c2),(5,.int .i64 (i:Nat))]) (m:=l.length) ?_ ?_
  ·exact⟨0,Nat.zero_le _,rfl,by simp,hs,rfl,rfl,rfl,trivial⟩
  ·rintro z f w ⟨i,hi,rfl,heq,hs,hf⟩
   have ob:=hf.chain
   obtain⟨g,rfl⟩:=ob
   by_cases hlt:i<l.length
   ·have ob:∃e,l[i]?=some e:=⟨_,getElem?_eq_getElem hlt⟩
    obtain⟨e,he⟩:=ob
    have ob:∃e,m[i]?=some e:=⟨_,getElem?_eq_getElem (by omega)⟩
    obtain⟨e2,he2⟩:=ob
    have ob:=hu.at he
    obtain⟨b,off,c',hb,hat⟩:=ob
    cases hb
    have ob:=hv.at he2
    obtain⟨b2,off2,c2',hb2,hat2⟩:=ob
    cases hb2
    have hel:=hu.len e (mem_of_getElem? he)
    have hel2:(u8s e).length=32:=by rw[u8s,length_map,hel]
    have hem:=hv.len e2 (mem_of_getElem? he2)
    have hem2:(u8s e2).length=32:=by rw[u8s,length_map,hem]
    refine cq<|sr<|wm<|wm<|wL u35 rfl<|lT<|wZ<|CW.cond rfl (fun h=>?_) (fun h=>?_)
    ·by_cases hed:e=e2
     ·refine ck<|cq<|cB<|cq<|CW.quiet mixedP (by kernel_rfl) hs ?_
      refine qm<|qm<|qI u35 ty44 rfl rfl<|qV (fun w hs=>run_loadN ty44 rfl hel2 (hat.step hs.clear (by simp)))<|qm<|qm<|qI u35 ty44 rfl rfl<|qV (fun w hs=>run_loadN ty44 rfl hem2 (hat2.step hs.clear (by simp)))<|qV (fun w hs=>run_bF (run_neDig hel hem rfl rfl) (fun h=>h hed))<|QL.nil (fun w hs=>?_)
      refine CW.cond rfl (fun h=>?_) (fun h=>?_)
      ·cases h
      refine ck<|cr<|wm<|wP ((i+1:Nat):Int)<|wA<|wZ<|(show _∧_ from⟨rfl,_,?_,i+1,hlt,rfl,?_,hs,rfl,rfl,rfl,trivial⟩)
      ·omega
      ·rw[take_add_one,take_add_one,he,he2,heq,hed]
     ·refine ck<|cq<|cB<|cq<|CW.quiet mixedP (by kernel_rfl) hs ?_
      refine qm<|qm<|qI u35 ty44 rfl rfl<|qV (fun w hs=>run_loadN ty44 rfl hel2 (hat.step hs.clear (by simp)))<|qm<|qm<|qI u35 ty44 rfl rfl<|qV (fun w hs=>run_loadN ty44 rfl hem2 (hat2.step hs.clear (by simp)))<|qV (fun w hs=>run_bT (run_neDig hel hem rfl rfl) hed)<|QL.nil (fun w hs=>?_)
      refine CW.cond rfl (fun h=>?_) (fun h=>?_)
      ·refine sr<|wA<|wZ<|CW.ret ?_
       refine fin_ret1 rfl ?_
       exact⟨congrArg (fun b=>Ending.returned (.bool b)) (by rw[←hr];symm;rw[decide_eq_false_iff_not];intro h;rw[h,he2] at he;exact hed (Option.some.inj he).symm),hs⟩
      ·cases h
    ·cases h
   ·obtain rfl:i=l.length:=by omega
    have hlm:l=m:=by
     rw[take_length,hlen,take_length] at heq;exact heq
    refine cq<|sr<|wm<|wm<|wL u35 rfl<|lF<|wZ<|CW.cond rfl (fun h=>?_) (fun h=>?_)
    ·cases h
    refine CW.exit<|sr<|wA<|wZ<|CW.ret ?_
    refine fin_ret1 rfl ?_
    exact⟨congrArg (fun b=>Ending.returned (.bool b)) (by rw[←hr];simp[hlm]),hs⟩
 ·refine calls (n:=26) Tryz.func20 rfl rfl rfl ?_
  refine sr<|wA<|wZ<|cq<|sr<|wm<|wL u35 rfl<|wm<|wL u35 rfl<|nT<|wZ<|CW.cond rfl (fun h=>?_) (fun h=>?_)
  ·refine sr<|wA<|wZ<|CW.ret ?_
   refine fin_ret1 rfl ?_
   exact⟨congrArg (fun b=>Ending.returned (.bool b)) (by rw[←hr];symm;rw[decide_eq_false_iff_not];intro h;exact hlen (congrArg _ h)),hs⟩
  ·cases h
end Go.Gx
namespace Go.Gx
open Go.Proofs List
theorem entsP_ok{bs:U8} (hl:bs.length≤1048576):∀{n:Nat}{a:U8}{p q:Nat}{l:List Ent},entsP bs n a p=.ok (l,q)→Oks l
 | 0,a,p,q,l,h=>by
  unfold entsP at h
  injection h with h;injection h with h1 h2
  subst h1;exact Oks.nil
 | n+1,a,p,q,l,h=>by
  unfold entsP at h
  split at h
  ·cases h
  ·rename_i x q' h1
   split at h
   ·cases h
   ·rename_i l' r h2
    injection h with h;injection h with h3 h4
    subst h3
    intro y hy
    rcases mem_cons.1 hy with rfl | hy
    ·exact(entP_ok hl h1).1
    ·exact entsP_ok hl h2 y hy
theorem decL_oks (y:U8):Oks (decL y):=by
 intro x hx
 by_cases hbig:1048576<y.length
 ·have he:decE y=2:=if_pos hbig
  unfold decL at hx
  rw[if_neg (by rw[he];decide)] at hx
  cases hx
 ·unfold decL at hx
  split at hx
  ·unfold readP at hx
   split at hx
   ·cases hx
   ·rename_i l q h
    split at hx
    ·cases hx
    ·unfold decP at h
     split at h
     ·cases h
     ·split at h
      ·split at h
       ·cases h
       ·exact entsP_ok (by omega) h x hx
      ·cases h
  ·cases hx
def WS.J (t:WS):Prop:=t.m.map (·.2)=true::t.l.map (·.dir)
def WS.M32 (t:WS):Prop:=∀p∈t.m,p.1.length=32
theorem visit_ok{s:AS}{rm:Rm}{x:Std}{t:WS} (h:(visit s rm x t).1=0) :
  ¬rm.d<x.dep∧¬rm.n<(t.n:Int)+1∧(s.get x.d).2=0∧(x.dir=true∧decE (s.get x.d).1=0∧visit s rm x t=(0,kids x (s.get x.d).1,t.node.meet x)∨
   x.dir=false∧¬rm.b<(t.b:Int)+(s.get x.d).1.length∧visit s rm x t=(0,[],((t.node.meet x).byte (s.get x.d).1.length).item ⟨x.p,false,(s.get x.d).1⟩)):=by
 by_cases c1:rm.d<x.dep
 ·rw[visit_deep c1] at h;cases h
 by_cases c2:rm.n<(t.n:Int)+1
 ·rw[visit_nodes c1 c2] at h;cases h
 by_cases c3:(s.get x.d).2≠0
 ·rw[visit_get c1 c2 c3] at h;exact absurd (Int.ofNat.inj h) c3
 refine⟨c1,c2,by simpa using c3,?_⟩
 cases hx:x.dir with
 | true=>
  by_cases c5:decE (s.get x.d).1≠0
  ·rw[visit_dec c1 c2 c3 hx c5] at h;exact absurd h c5
  ·have c5:decE (s.get x.d).1=0:=by simpa using c5
   exact .inl ⟨rfl,c5,visit_dir c1 c2 c3 hx c5⟩
 | false=>
  by_cases c5:rm.b<(t.b:Int)+(s.get x.d).1.length
  ·rw[visit_bytes c1 c2 c3 hx c5] at h;cases h
  ·exact .inr ⟨rfl,c5,visit_file c1 c2 c3 hx c5⟩
theorem seqS_keep{P:WS→Prop}{f:Std→WS→Int×WS}:∀{l:List Std}{t:WS},(∀x∈l,∀t,P t→(f x t).1=0→P (f x t).2)→P t→(seqS f l t).1=0→P (seqS f l t).2
 | [],t,_,h,_=>h
 | x::l,t,hf,h,he=>by
  rw[seqS] at he⊢
  by_cases c:(f x t).1≠0
  ·rw[if_pos c] at he;exact absurd he c
  ·rw[if_neg c] at he⊢
   exact seqS_keep (fun y hy=>hf y (by simp[hy])) (hf x (by simp) t h (by simpa using c)) he
theorem standP_keep{P:WS→Prop}{s:AS}{rm:Rm} (Q:Std→Prop) (hv:∀x t,Q x→P t→(visit s rm x (push x t)).1=0→P (visit s rm x (push x t)).2.2) (hk:∀x y,Q x→y∈kids x (s.get x.d).1→Q y) :
  ∀(n:Nat){x:Std}{t:WS},Q x→P t→(stand s rm n x t).1=0→P (stand s rm n x t).2
 | 0,x,t,hx,h,he=>by cases he
 | n+1,x,t,hx,h,he=>by
  rw[stand,standP] at he⊢
  by_cases c:(visit s rm x (push x t)).1≠0
  ·rw[if_pos c] at he;exact absurd he c
  ·rw[if_neg c] at he⊢
   have c0:(visit s rm x (push x t)).1=0:=by simpa using c
   refine seqS_keep (f:=fun y u=>standP s rm n y (push y u)) (fun y hy u hu hy0=>standP_keep Q hv hk n (hk x y hx ?_) hu hy0) (hv x t hx h c0) he
   rcases (visit_ok c0).2.2.2 with⟨_,_,e⟩ | ⟨_,_,e⟩
   ·rw[e] at hy;exact hy
   ·rw[e] at hy;cases hy
theorem visit_J{s:AS}{rm:Rm}{x:Std}{t:WS} (hx:x.dep≠0) (h:t.J) (h0:(visit s rm x (push x t)).1=0):(visit s rm x (push x t)).2.2.J:=by
 unfold WS.J at h⊢
 rcases (visit_ok h0).2.2.2 with⟨hd,_,e⟩ | ⟨hd,_,e⟩
 ·rw[e,push_dir hd hx]
  show((t.m++[(x.d,x.dir)]).map (·.2))=true::(t.l++[(⟨x.p,true,[]⟩:WI)]).map (·.dir)
  rw[map_append,map_append,h,hd];rfl
 ·rw[e,push_file hd]
  show((t.m++[(x.d,x.dir)]).map (·.2))=true::(t.l++[(⟨x.p,false,(s.get x.d).1⟩:WI)]).map (·.dir)
  rw[map_append,map_append,h,hd];rfl
theorem kids_dep{x y:Std}{b:U8} (h:y∈kids x b):y.dep=x.dep+1:=by
 have ob:=mem_map.1 h
 obtain⟨e,_,rfl⟩:=ob
 rfl
theorem kids_dig{x y:Std}{b:U8} (h:y∈kids x b):y.d.length=32:=by
 have ob:=mem_map.1 h
 obtain⟨e,he,rfl⟩:=ob
 exact(decL_oks b e he).1
theorem visit_m{s:AS}{rm:Rm}{x:Std}{t:WS} (h0:(visit s rm x t).1=0):(visit s rm x t).2.2.m=t.m++[(x.d,x.dir)]:=by
 rcases (visit_ok h0).2.2.2 with⟨hd,_,e⟩ | ⟨hd,_,e⟩ <;> rw[e] <;> rfl
section
variable{s:AS}{rm:Rm}{d:U8}
theorem root_split (h:(standP s rm 34 (rootS d) ws0).1=0):∃t1,t1.m=[(d,true)]∧t1.l=[]∧standP s rm 34 (rootS d) ws0=seqS (fun y u=>stand s rm 33 y u) (kids (rootS d) (s.get d).1) t1:=by
 rw[standP] at h⊢
 by_cases c:(visit s rm (rootS d) ws0).1≠0
 ·rw[if_pos c] at h;exact absurd h c
 ·have c0:(visit s rm (rootS d) ws0).1=0:=by simpa using c
  rw[if_neg c]
  rcases (visit_ok c0).2.2.2 with⟨hd,_,e⟩ | ⟨hd,_,e⟩
  ·rw[e];exact⟨_,rfl,rfl,rfl⟩
  ·cases hd
theorem root_J (h:(standP s rm 34 (rootS d) ws0).1=0):(standP s rm 34 (rootS d) ws0).2.J:=by
 have ob:=root_split h
 obtain⟨t1,h1,h2,e⟩:=ob
 rw[e] at h⊢
 refine seqS_keep (P:=WS.J) (fun y hy u hu h0=>standP_keep (P:=WS.J) (fun x=>x.dep≠0) (fun x t hx h h0=>visit_J hx h h0) (fun x y hx hy=>by rw[kids_dep hy];omega) 33 (by show y.dep≠0;rw[kids_dep hy];omega) hu h0) ?_ h
 show t1.m.map (·.2)=true::t1.l.map (·.dir)
 rw[h1,h2];rfl
theorem root_M32 (hd:d.length=32) (h:(standP s rm 34 (rootS d) ws0).1=0):(standP s rm 34 (rootS d) ws0).2.M32:=by
 have:=standP_keep (P:=WS.M32) (s:=s) (rm:=rm) (fun x=>x.d.length=32) (fun x t hx h h0 p hp=>by
  rw[visit_m h0,push_m] at hp
  rcases mem_append.1 hp with hp | hp
  ·exact h p hp
  ·obtain rfl:=mem_singleton.1 hp;exact hx) (fun x y hx hy=>kids_dig hy) 34 (x:=rootS d) (t:=ws0) hd (fun p hp=>by cases hp)
 rw[stand,push_root] at this
 exact this h
end
end Go.Gx
namespace Go.Gx
open Go.Proofs List
attribute [local irreducible] shaL cutD frontL
theorem least_spec{a b:Int} (w0:World):CP 136 #[.int .i64 a,.int .i64 b] w0 (Ret0 (.int .i64 (minZ a b)) w0):=by
 have hs:Step [] [] w0 w0:=Step.refl w0
 by_cases h0:a<b
 ·rw[show minZ a b=a from if_pos h0]
  refine calls (n:=10) Tryz.func136 rfl rfl rfl ?_
  refine sr<|wA<|wZ<|cq<|sr<|wm<|wm<|wV (run_bT (run_lss rfl rfl) (by exact h0))<|wZ<|CW.cond rfl (fun h=>?_) (fun h=>?_)
  ·refine sr<|wm<|wA<|wZ<|CW.ret ?_
   refine fin_ret1 rfl ?_
   exact⟨rfl,hs⟩
  ·cases h
 ·rw[show minZ a b=b from if_neg h0]
  refine calls (n:=10) Tryz.func136 rfl rfl rfl ?_
  refine sr<|wA<|wZ<|cq<|sr<|wm<|wm<|wV (run_bF (run_lss rfl rfl) (by exact h0))<|wZ<|CW.cond rfl (fun h=>?_) (fun h=>?_)
  ·cases h
  refine ck<|sr<|wm<|wA<|wZ<|CW.ret ?_
  refine fin_ret1 rfl ?_
  exact⟨rfl,hs⟩
theorem bld_wk (br:Nat) (a b c:Int) (w:World):(Instr.build 180 #[(0,pt br),(1,.agg [.int .i64 a,.int .i64 b,.int .i64 c].toArray)]).run Tryz.prog w=.ok (.agg (wkC br ⟨a,b,c⟩ ws0 (.slice none 0 0) (.slice none 0 0)).toArray) w:=by kernel_rfl
theorem begin_spec{br:Nat}{rn rd rb:Int} (w0:World):CP 93 #[pt br,.agg #[.int .i64 rn,.int .i64 rd,.int .i64 rb]] w0 fun e w'=>∃bw,e=.returned (pt bw)∧Step [] [(bw,blk 180 (wkC br (rmOf rn rd rb) ws0 (.slice none 0 0) (.slice none 0 0)))] w0 w':=by
 have hs:Step [] [] w0 w0:=Step.refl w0
 refine calls (n:=18) Tryz.func93 rfl rfl rfl ?_
 refine sr<|WL.box (cs:=[.int .i64 rn,.int .i64 rd,.int .i64 rb]) rfl rfl rfl hs (fun b3 w hs=>?_)
 refine wA<|wZ<|cq<|CW.any (A:=fun w=>Step [] [(b3,blk 30 [.int .i64 rn,.int .i64 rd,.int .i64 rb])] w0 w) (C:=fun w=>Step [] [(b3,blk 30 [.int .i64 rn,.int .i64 rd,.int .i64 rb])] w0 w) 1000000 14 mixedP rfl ?_
 replace hs:=hs.drew
 refine aM 0 rfl<|aF 1 rfl 0 u30 rfl ty3 rfl<|aL 2 rfl ty3 rfl (fun w hs=>hs.c0 rfl)<|aF 4 rfl 1 u30 rfl ty3 rfl<|aL 5 rfl ty3 rfl (fun w hs=>hs.c0 rfl)<|aF 7 rfl 2 u30 rfl ty3 rfl<|aL 8 rfl ty3 rfl (fun w hs=>hs.c0 rfl)<|AL.one 3 (by kernel_rfl) rfl (by exact hs) (by exact hs) ?_
 refine wE rfl (run_call en136 rfl rfl) (least_spec _) ?_
 rintro e w ⟨rfl,hq⟩
 refine⟨_,rfl,?_⟩
 replace hs:=hs.callE hq
 refine wZ<|⟨rfl,?_⟩
 refine AL.one 6 (by kernel_rfl) rfl (by exact hs) (by exact hs) ?_
 refine wE rfl (run_call en136 rfl rfl) (least_spec _) ?_
 rintro e w ⟨rfl,hq⟩
 refine⟨_,rfl,?_⟩
 replace hs:=hs.callE hq
 refine wZ<|⟨rfl,?_⟩
 refine AL.one 9 (by kernel_rfl) rfl (by exact hs) (by exact hs) ?_
 refine wE rfl (run_call en136 rfl rfl) (least_spec _) ?_
 rintro e w ⟨rfl,hq⟩
 refine⟨_,rfl,?_⟩
 replace hs:=hs.callE hq
 refine wZ<|⟨rfl,?_⟩
 refine aV 10 rfl (fun w hs=>run_build rfl (bld_room _ _ _ _))<|aV 11 rfl (fun w hs=>run_build rfl (bld_wk _ _ _ _ _))<|AL.one 12 (by kernel_rfl) rfl (by exact hs) (by exact hs) ?_
 refine WL.box (cs:=wkC br (rmOf rn rd rb) ws0 (.slice none 0 0) (.slice none 0 0)) rfl rfl rfl hs (fun b17 w hs=>?_)
 refine wZ<|⟨rfl,?_⟩
 refine aA 13 rfl<|AL.end (by kernel_rfl) (by exact hs.tail) (by exact hs.tail) ?_
 refine CW.ret ?_
 refine fin_ret1 rfl ?_
 exact⟨b17,rfl,Step.dropR (L1:=[_]) hs⟩
def stC8 (p:(List UInt8)×Bool):List Value:=u8s p.1++[.bool p.2]
def rowsSt (m:List ((List UInt8)×Bool)):List Value:=m.flatMap stC8
theorem rowsSt_snoc (m:List (List UInt8×Bool)) (p:List UInt8×Bool):rowsSt (m++[p])=rowsSt m++stC8 p:=by simp[rowsSt]
theorem stC8_len{p:List UInt8×Bool} (h:p.1.length=32):(stC8 p).length=33:=by simp[stC8,u8s,h]
theorem stC8_c1 (p:List UInt8×Bool):Cells1 (stC8 p):=(Cells1.u8s _).append (Cells1.of_all rfl)
theorem bld_st32 (a0 a1 a2 a3 a4 a5 a6 a7 a8 a9 a10 a11 a12 a13 a14 a15 a16 a17 a18 a19 a20 a21 a22 a23 a24 a25 a26 a27 a28 a29 a30 a31:UInt8) (b:Bool) (w:World):(Instr.build 137 #[(0,.agg (u8s [a0,a1,a2,a3,a4,a5,a6,a7,a8,a9,a10,a11,a12,a13,a14,a15,a16,a17,a18,a19,a20,a21,a22,a23,a24,a25,a26,a27,a28,a29,a30,a31]).toArray),(1,.bool b)]).run Tryz.prog w=.ok (.agg (u8s [a0,a1,a2,a3,a4,a5,a6,a7,a8,a9,a10,a11,a12,a13,a14,a15,a16,a17,a18,a19,a20,a21,a22,a23,a24,a25,a26,a27,a28,a29,a30,a31]++[Value.bool b]).toArray) w:=by kernel_rfl
theorem bld_st8{p:List UInt8×Bool} (hd:p.1.length=32) (w:World):(Instr.build 137 #[(0,.agg (u8s p.1).toArray),(1,.bool p.2)]).run Tryz.prog w=.ok (.agg (stC8 p).toArray) w:=by
 obtain⟨d,b⟩:=p
 have hd:d.length=32:=hd
 have ob:=cells32 hd
 obtain⟨a0,a1,a2,a3,a4,a5,a6,a7,a8,a9,a10,a11,a12,a13,a14,a15,a16,a17,a18,a19,a20,a21,a22,a23,a24,a25,a26,a27,a28,a29,a30,a31,rfl⟩:=ob
 exact bld_st32 a0 a1 a2 a3 a4 a5 a6 a7 a8 a9 a10 a11 a12 a13 a14 a15 a16 a17 a18 a19 a20 a21 a22 a23 a24 a25 a26 a27 a28 a29 a30 a31 b w
theorem rowsSt_at:∀{m:List (List UInt8×Bool)},(∀p∈m,p.1.length=32)→∀{w:World}{b off:Nat},At w b off (rowsSt m)→∀{i:Nat}{p:List UInt8×Bool},m[i]?=some p→At w b (off+i*33) (stC8 p)
 | [],_,w,b,off,_,i,d,h=>by simp at h
 | x::l,hl,w,b,off,ha,0,d,h=>by
  rw[getElem?_cons_zero] at h
  obtain rfl:=Option.some.inj h
  rw[Nat.zero_mul,Nat.add_zero]
  rw[rowsSt,flatMap_cons] at ha
  exact ha.left
 | x::l,hl,w,b,off,ha,i+1,d,h=>by
  rw[rowsSt,flatMap_cons] at ha
  have h2:=ha.right
  rw[stC8_len (hl x (by simp))] at h2
  have h3:=rowsSt_at (m:=l) (fun d hd=>hl d (by simp[hd])) h2 (i:=i) (p:=d) h
  rw[show off+(i+1)*33=off+33+i*33 by omega]
  exact h3
theorem digsM_eq (m:List (List UInt8×Bool)):digsM m=digsL (m.map (·.1)):=by simp[digsM,digsL,flatMap_map]
theorem rowsW_at:∀{T:List (WI×Value)}{w:World}{b off:Nat},At w b off (rowsW T)→∀{i:Nat}{u:WI×Value},T[i]?=some u→At w b (off+i*3) (wiC u)
 | [],w,b,off,_,i,d,h=>by simp at h
 | x::l,w,b,off,ha,0,d,h=>by
  rw[getElem?_cons_zero] at h
  obtain rfl:=Option.some.inj h
  rw[Nat.zero_mul,Nat.add_zero]
  rw[rowsW,flatMap_cons] at ha
  exact ha.left
 | x::l,w,b,off,ha,i+1,d,h=>by
  rw[rowsW,flatMap_cons] at ha
  have h2:=ha.right
  have h3:=rowsW_at (T:=l) h2 (i:=i) (u:=d) h
  rw[show off+(i+1)*3=off+(wiC x).length+i*3 by show off+(i+1)*3=off+3+i*3;omega]
  exact h3
theorem At.ownSl{E:TypeId}{sz k:Nat}{v:Value}{xs:List Value}{Lv:OL}{w:World} (h:OwnSl E sz v k xs Lv) (hw:∀p∈Lv,w.heap[p.1]?=some p.2) (hk:0<k):∃b c,v=.slice (some ⟨b,0,none⟩) k c∧At w b 0 xs:=by
 obtain⟨h1,⟨rfl,h0,rfl⟩ | ⟨b,cap,more,rfl,rfl,h3⟩⟩:=h
 ·omega
 ·exact⟨b,cap,rfl,(At.of_blk (hw (b,blk E (xs++more)) (by simp))).left⟩
section
variable{S:List Nat}{Z X:OL}{a:Nat×Obj}{w w':World}
theorem Step.in1 (h:Step S (a::(Z++X)) w w'):Step S (Z++(a::X)) w w':=h.perm perm_middle.symm
theorem Step.out1 (h:Step S (Z++(a::X)) w w'):Step S (Z++X) w w':=Step.tail (p:=a) (h.perm perm_middle)
end
def reachL (r:Int×WS):List (List UInt8):=if r.1=0 then ordM r.2.m else []
section
variable{br bp N:Nat}{s:AS}{D R L:OL}{d:U8}{rn rd rb:Int}{w0:World}
set_option maxHeartbeats 8000000 in
theorem walkR_spec (hR:RRep br s D R) (ok:s.Ok) (hfew:s.Few N) (hN:N<1000000000000) (hd:d.length=32) (hrm:(rmOf rn rd rb).Ok) (hw:Lives (R++D) w0) :
  CP 65 #[pt br,.agg (u8s d).toArray,.agg #[.int .i64 rn,.int .i64 rd,.int .i64 rb]] w0 fun e w'=>∃v Lv R' D',e=.returned (.tuple #[v,.int .i64 (runs s (rmOf rn rd rb) [rootS d] ws0).1])∧
   RRep br (s.gotN (runs s (rmOf rn rd rb) [rootS d] ws0).2.g) (D'++D) R'∧OwnSl 137 33 v (if (runs s (rmOf rn rd rb) [rootS d] ws0).1=0 then (runs s (rmOf rn rd rb) [rootS d] ws0).2.m else []).length (rowsSt (if (runs s (rmOf rn rd rb) [rootS d] ws0).1=0 then (runs s (rmOf rn rd rb) [rootS d] ws0).2.m else [])) Lv∧Step (R.map (·.1)) (R'++(Lv++D')) w0 w':=by
 rw[runs_root]
 have ob:∃r,standP s (rmOf rn rd rb) 34 (rootS d) ws0=r:=⟨_,rfl⟩
 obtain⟨r,hr⟩:=ob
 have hJ:=root_J (s:=s) (rm:=rmOf rn rd rb) (d:=d)
 have hM:=root_M32 (s:=s) (rm:=rmOf rn rd rb) hd
 have hG:=standP_good (s:=s) hrm 34 (x:=rootS d) (t:=ws0) (ws0_good.mono (by omega))
 rw[hr] at hJ hM hG⊢
 have hdl:(u8s d).length=32:=by rw[u8s,length_map,hd]
 have hs:Step (List.map (·.1) (R++D)) (R++D) w0 w0:=hw
 refine calls (n:=55) Tryz.func65 rfl rfl rfl ?_
 refine sr<|WL.box (cs:=u8s d) rfl rfl rfl hs (fun b4 w hs=>?_)
 refine WL.box (cs:=[.int .i64 rn,.int .i64 rd,.int .i64 rb]) rfl rfl rfl hs (fun b5 w hs=>?_)
 refine wA<|wA<|wZ<|sr<|wm<|wR ty30 rfl (by rfl) hs.a0<|wE rfl (run_call en93 rfl rfl) (begin_spec _) ?_
 rintro e w ⟨bw,rfl,hq⟩
 refine⟨_,rfl,?_⟩
 replace hs:=Step.call0 hs hq
 refine wA<|wZ ?_
 have hW0:DWk bw br (rmOf rn rd rb) ws0 D [(bw,blk 180 (wkC br (rmOf rn rd rb) ws0 (.slice none 0 0) (.slice none 0 0)))]:=⟨_,[],_,[],[],rfl,OwnSl.nil _ _,OwnSl.nil _ _,rfl,fun u hu=>by cases hu⟩
 replace hs:Step (List.map (·.1) (R++D)) ((b4,blk 44 (u8s d))::([(bw,blk 180 (wkC br (rmOf rn rd rb) ws0 (.slice none 0 0) (.slice none 0 0)))]++(R++D))) w0 w:=hs.swap.tail.swap
 have hdir:=fun{w1:World} h=>wdir_spec (x:=rootS d) (t:=ws0) (w0:=w1) ok hrm hfew hN 34 rfl rfl hd (by simp[rootS]) (ws0_good.mono (by omega)) hW0 hR h
 rw[hr] at hdir
 refine sr<|wm<|wR ty44 rfl hdl hs.a0<|wE rfl (run_call en95 rfl rfl) (hdir (Lives.mk hs.tail)) ?_
 rintro e w ⟨W1,R1,D1,rfl,hW1,hR1,hq⟩
 refine⟨_,rfl,?_⟩
 replace hs:=Step.wput (A:=[_]) (W:=[_]) hs hq
 refine wA<|wZ ?_
 by_cases he:r.1≠0
 ·rw[if_neg he]
  refine cq<|sr<|wm<|wV (run_bT (run_neq rfl rfl) (by exact he))<|wZ<|CW.cond rfl (fun h=>?_) (fun h=>?_)
  ·refine sr<|wm<|wA<|wA<|wZ<|CW.ret ?_
   refine fin_ret2 rfl ?_
   exact⟨_,[],R1,D1,rfl,hR1,OwnSl.nil _ _,Step.fin (M:=[]) hw (Step.dropL (L1:=W1) hs.tail)⟩
  ·cases h
 have he0:r.1=0:=by simpa using he
 have hJ:=hJ he0
 have hM:=hM he0
 have hG:=hG he0
 rw[if_pos he0]
 obtain⟨vL,LL,vM,LM,T,rfl,hvL,hvM,hT,hTD⟩:=hW1
 have ob:=hvM.form
 obtain⟨ma,mc,rfl⟩:=ob
 have ob:=hvL.form
 obtain⟨la,lc,rfl⟩:=ob
 have ob:∃m,r.2.m=m:=⟨_,rfl⟩
 obtain⟨m,hm⟩:=ob
 have ob:∃l,r.2.l=l:=⟨_,rfl⟩
 obtain⟨l,hl⟩:=ob
 have hgm:=hG.m
 have hgn:=hG.n
 unfold WS.J at hJ
 unfold WS.M32 at hM
 rw[hm] at hJ hM hvM hgm⊢
 rw[hl] at hJ hvL hT
 have hlm:m.length=l.length+1:=by have h:=congrArg List.length hJ;simpa using h
 have hTl:T.length=l.length:=by rw[←hT,length_map]
 have hwc:∀{X:OL}{w:World},Step (List.map (·.1) (R++D)) X w0 w→(bw,blk 180 (wkC br (rmOf rn rd rb) r.2 (.slice la l.length lc) (.slice ma m.length mc)))∈X→At w bw 0 (wkC br (rmOf rn rd rb) r.2 (.slice la l.length lc) (.slice ma m.length mc)):=fun h hm=>At.of_blk (h.has _ hm)
 replace hs:Step (List.map (·.1) (R++D)) ((b4,blk 44 (u8s d))::(((bw,blk 180 (wkC br (rmOf rn rd rb) r.2 (.slice la l.length lc) (.slice ma m.length mc)))::(LL++LM))++(R1++(D1++D)))) w0 w:=by rw[←hm,←hl];exact hs
 replace hs:=hs.tail
 refine cq<|sr<|wm<|wV (run_bF (run_neq rfl rfl) (by exact he))<|wZ<|CW.cond rfl (fun h=>?_) (fun h=>?_)
 ·cases h
 refine ck<|sr<|wA<|wZ<|cq<|sr<|wA<|wZ<|cB<|CW.loop (fun z f w'=>∃i vo Lo,i≤m.length∧z=m.length - i∧OwnSl 137 33 vo (m.take i).length (rowsSt (m.take i)) Lo∧Step (List.map (·.1) (R++D)) (Lo++(((bw,blk 180 (wkC br (rmOf rn rd rb) r.2 (.slice la l.length lc) (.slice ma m.length mc)))::(LL++LM))++(R1++(D1++D)))) w0 w'∧Holds f [(8,pt bw),(10,vo),(11,.int .i64 (i:Nat))]) (m:=m.length) ?_ ?_
 ·exact⟨0,_,[],Nat.zero_le _,rfl,OwnSl.nil _ _,hs,rfl,rfl,rfl,trivial⟩
 clear hs
 rintro z f w ⟨i,vo,Lo,hi,rfl,hvo,hs,hf⟩
 have ob:=hf.chain
 obtain⟨g,rfl⟩:=ob
 by_cases hlt:i<m.length
 ·have ob:∃p,m[i]?=some p:=⟨_,getElem?_eq_getElem hlt⟩
  obtain⟨p,hp⟩:=ob
  have hpl:=hM p (mem_of_getElem? hp)
  have hpl2:(u8s p.1).length=32:=by rw[u8s,length_map,hpl]
  have ob:=hvM.some1 (by omega)
  obtain⟨bm,cm,morem,hme1,hme2,hme3⟩:=ob
  cases hme1
  subst hme2
  have hatX:∀{X:OL}{w:World},Step (List.map (·.1) (R++D)) X w0 w→(bm,blk 44 (digsM m++morem))∈X→At w bm (0+i*32) (u8s p.1):=fun {X w} h hm=>by
   have h1:At w bm 0 (digsM m):=(At.of_blk (h.has _ hm)).left
   rw[digsM_eq] at h1
   exact digsL_at (l:=m.map (·.1)) (fun d hd=>by obtain⟨q,hq,rfl⟩:=mem_map.1 hd;exact hM q hq) h1 (by rw[getElem?_map,hp];rfl)
  have hmi:m.map (·.2)=true::l.map (·.dir):=hJ
  have hp2:(m.map (·.2))[i]?=some p.2:=by rw[getElem?_map,hp];rfl
  rw[hmi] at hp2
  have htk:m.take (i+1)=m.take i++[p]:=by rw[take_add_one,hp];rfl
  have htl:(m.take i).length=i:=by rw[length_take];omega
  refine cq<|sr<|wm<|wm<|wn rfl<|wF 7 u180 rfl ty35 rfl<|wl ty35 rfl ((hwc hs (by simp)).cell (j:=7) rfl)<|wL u35 rfl<|lT<|wZ<|CW.cond rfl (fun h=>?_) (fun h=>?_)
  ·by_cases hi0:i=0
   ·have hpt:p.2=true:=by rw[hi0] at hp2;simpa using hp2.symm
    have hKP:∀{X:OL}{w:World},Step (List.map (·.1) (R++D)) X w0 w→(bm,blk 44 (digsM m++morem))∈X→(bw,blk 180 (wkC br (rmOf rn rd rb) r.2 (.slice la l.length lc) (.slice (some ⟨bm,0,none⟩) m.length mc)))∈X→At w bm (0+i*32) (u8s p.1)∧w.cell? ⟨bw,7,none⟩=some (.slice (some ⟨bm,0,none⟩) m.length mc):=fun h h1 h2=>⟨hatX h h1,(hwc h h2).cell (j:=7) rfl⟩
    refine ck<|cq<|cB<|CW.any (A:=fun w=>At w bm (0+i*32) (u8s p.1)∧w.cell? ⟨bw,7,none⟩=some (.slice (some ⟨bm,0,none⟩) m.length mc)) (C:=fun w=>At w bm (0+i*32) (u8s p.1)∧w.cell? ⟨bw,7,none⟩=some (.slice (some ⟨bm,0,none⟩) m.length mc)) 1000000 25 mixedP rfl ?_
    replace hs:=hs.drew
    refine aM 0 rfl<|aM 1 rfl<|aN 2 rfl rfl<|aF 3 rfl 7 u180 rfl ty35 rfl<|aL 4 rfl ty35 rfl (fun w hs=>hs.2)<|aM 5 rfl<|aV 6 rfl (fun w hs=>run_ixSlN u35 ty44 rfl rfl (by omega))<|aV 7 rfl (fun w hs=>run_loadN ty44 rfl hpl2 hs.1)<|aM 8 rfl<|aV 9 rfl (fun w hs=>run_bT (run_eql rfl rfl) (by omega))<|aM 10 rfl<|AL.valN 11 rfl (by kernel_rfl) rfl rfl rfl (.inl rfl) ?_
    refine AL.valN 12 rfl (by kernel_rfl) rfl rfl rfl (.inl rfl) ?_
    refine AL.valN 13 rfl (by kernel_rfl) rfl rfl rfl (.inl rfl) ?_
    refine AL.valN 14 rfl (by kernel_rfl) rfl rfl rfl (.inl rfl) ?_
    refine AL.valN 15 rfl (by kernel_rfl) rfl rfl rfl (.inl rfl) ?_
    refine AL.valN 16 rfl (by kernel_rfl) rfl rfl rfl (.inl rfl) ?_
    refine AL.valN 17 rfl (by kernel_rfl) rfl rfl rfl (.inl rfl) ?_
    refine AL.valN 18 rfl (by kernel_rfl) rfl rfl rfl (.inl rfl) ?_
    refine AL.valN 19 rfl (by kernel_rfl) rfl rfl rfl (.inl rfl) ?_
    refine aV 20 rfl (fun w hs=>run_pickT rfl)<|aV 21 rfl (fun w hs=>run_build rfl ((show _=_ from by have h:=bld_st8 hpl w;rw[hpt] at h;exact h)))<|AL.one 22 (by kernel_rfl) rfl (hKP hs (by simp) (by simp)) (hKP hs (by simp) (by simp)) ?_
    refine WL.buildSlice (cs:=stC8 p) u133 ty137 rfl (by decide) rfl (filled1 (stC8_len hpl) rfl) rfl hs (fun b52 w hs=>?_)
    have hsl52:Sl w 33 (.slice (some ⟨b52,0,none⟩) 1 1) 1 (stC8 p):=.own1 hs (by rw[stC8_len hpl])
    replace hs:=Step.in1 (Z:=Lo) hs
    refine wZ<|⟨rfl,?_⟩
    refine AL.one 23 (by kernel_rfl) rfl (hKP hs (by simp) (by simp)) (hKP hs (by simp) (by simp)) ?_
    refine WL.append u133 u133 ty137 rfl (by decide) rfl rfl (hvo) (hs) (hsl52) (stC8_c1 p) (by omega) rfl (fun v53 Lv53 w hv53 hs=>?_)
    replace hs:=Step.out1 (Z:=Lv53) hs
    refine wZ<|⟨rfl,?_⟩
    refine aA 24 rfl<|AL.end (by kernel_rfl) (hKP hs (by simp) (by simp)) (hKP hs (by simp) (by simp)) ?_
    refine cr<|wm<|wP ((i+1:Nat):Int)<|wA<|wZ ?_
    have hv2:OwnSl 137 33 v53 (m.take (i+1)).length (rowsSt (m.take (i+1))) Lv53:=by
     rw[htk,length_append,rowsSt_snoc];exact hv53
    refine(show _∧_ from⟨rfl,_,?_,i+1,v53,Lv53,hlt,rfl,hv2,hs,rfl,rfl,rfl,trivial⟩)
    omega
   ·have ob:∃k,i=k+1:=⟨i - 1,by omega⟩
    obtain⟨k,hk⟩:=ob
    have hkl:k<l.length:=by omega
    rw[hk] at hp2
    have ob:=hvL.some1 (by omega)
    obtain⟨bl,cl,morel,hle1,hle2,hle3⟩:=ob
    cases hle1
    subst hle2
    have ob:∃u,T[k]?=some u:=⟨_,getElem?_eq_getElem (by omega)⟩
    obtain⟨u,hu⟩:=ob
    have hud:u.1.dir=p.2:=by
     have h1:l[k]?=some u.1:=by rw[←hT,getElem?_map,hu];rfl
     rw[getElem?_cons_succ,getElem?_map,h1] at hp2
     exact Option.some.inj hp2
    have hKP:∀{X:OL}{w:World},Step (List.map (·.1) (R++D)) X w0 w→(bm,blk 44 (digsM m++morem))∈X→(bl,blk 155 (rowsW T++morel))∈X→(bw,blk 180 (wkC br (rmOf rn rd rb) r.2 (.slice (some ⟨bl,0,none⟩) l.length lc) (.slice (some ⟨bm,0,none⟩) m.length mc)))∈X→At w bm (0+i*32) (u8s p.1)∧w.cell? ⟨bw,7,none⟩=some (.slice (some ⟨bm,0,none⟩) m.length mc)∧w.cell? ⟨bw,6,none⟩=some (.slice (some ⟨bl,0,none⟩) l.length lc)∧w.cell? ⟨bl,0+k*3+1,none⟩=some (.bool p.2):=fun h h1 h2 h3=>⟨hatX h h1,(hwc h h3).cell (j:=7) rfl,(hwc h h3).cell (j:=6) rfl,by
     have h4:=rowsW_at (At.of_blk (h.has _ h2)).left hu
     have h5:=h4.cell (j:=1) (v:=.bool p.2) (by rw[←hud];rfl)
     exact h5⟩
    refine ck<|cq<|cB<|CW.any (A:=fun w=>At w bm (0+i*32) (u8s p.1)∧w.cell? ⟨bw,7,none⟩=some (.slice (some ⟨bm,0,none⟩) m.length mc)∧w.cell? ⟨bw,6,none⟩=some (.slice (some ⟨bl,0,none⟩) l.length lc)∧w.cell? ⟨bl,0+k*3+1,none⟩=some (.bool p.2)) (C:=fun w=>At w bm (0+i*32) (u8s p.1)∧w.cell? ⟨bw,7,none⟩=some (.slice (some ⟨bm,0,none⟩) m.length mc)∧w.cell? ⟨bw,6,none⟩=some (.slice (some ⟨bl,0,none⟩) l.length lc)∧w.cell? ⟨bl,0+k*3+1,none⟩=some (.bool p.2)) 1000000 25 mixedP rfl ?_
    replace hs:=hs.drew
    refine aM 0 rfl<|aM 1 rfl<|aN 2 rfl rfl<|aF 3 rfl 7 u180 rfl ty35 rfl<|aL 4 rfl ty35 rfl (fun w hs=>hs.2.1)<|aM 5 rfl<|aV 6 rfl (fun w hs=>run_ixSlN u35 ty44 rfl rfl (by omega))<|aV 7 rfl (fun w hs=>run_loadN ty44 rfl hpl2 hs.1)<|aM 8 rfl<|aV 9 rfl (fun w hs=>run_bF (run_eql rfl rfl) (by omega))<|aM 10 rfl<|AL.valY 11 rfl (by kernel_rfl) rfl rfl rfl rfl (fun w hs=>run_move) ?_
    refine AL.valY 12 rfl (by kernel_rfl) rfl rfl rfl rfl (fun w hs=>run_nilCheck rfl) ?_
    refine AL.valY 13 rfl (by kernel_rfl) rfl rfl rfl rfl (fun w hs=>run_field (o':=6) u180 rfl ty65 rfl rfl rfl) ?_
    refine AL.valY 14 rfl (by kernel_rfl) rfl rfl rfl rfl (fun w hs=>run_load1 ty65 rfl (hs.2.2.1)) ?_
    refine AL.valY 15 rfl (by kernel_rfl) rfl rfl rfl rfl (fun w hs=>run_move) ?_
    refine AL.valY 16 rfl (by kernel_rfl) rfl rfl rfl rfl (fun w hs=>run_sub (c:=((k:Nat):Int)) rfl rfl (by omega) (by omega)) ?_
    refine AL.valY 17 rfl (by kernel_rfl) rfl rfl rfl rfl (fun w hs=>run_ixSlN u65 ty155 rfl rfl (by omega)) ?_
    refine AL.valY 18 rfl (by kernel_rfl) rfl rfl rfl rfl (fun w hs=>run_field (o':=1) u155 rfl ty4 rfl rfl rfl) ?_
    refine AL.valY 19 rfl (by kernel_rfl) rfl rfl rfl rfl (fun w hs=>run_load1 ty4 rfl (hs.2.2.2)) ?_
    refine aV 20 rfl (fun w hs=>run_pickF rfl)<|aV 21 rfl (fun w hs=>run_build rfl (bld_st8 hpl _))<|AL.one 22 (by kernel_rfl) rfl (hKP hs (by simp) (by simp) (by simp)) (hKP hs (by simp) (by simp) (by simp)) ?_
    refine WL.buildSlice (cs:=stC8 p) u133 ty137 rfl (by decide) rfl (filled1 (stC8_len hpl) rfl) rfl hs (fun b52 w hs=>?_)
    have hsl52:Sl w 33 (.slice (some ⟨b52,0,none⟩) 1 1) 1 (stC8 p):=.own1 hs (by rw[stC8_len hpl])
    replace hs:=Step.in1 (Z:=Lo) hs
    refine wZ<|⟨rfl,?_⟩
    refine AL.one 23 (by kernel_rfl) rfl (hKP hs (by simp) (by simp) (by simp)) (hKP hs (by simp) (by simp) (by simp)) ?_
    refine WL.append u133 u133 ty137 rfl (by decide) rfl rfl (hvo) (hs) (hsl52) (stC8_c1 p) (by omega) rfl (fun v53 Lv53 w hv53 hs=>?_)
    replace hs:=Step.out1 (Z:=Lv53) hs
    refine wZ<|⟨rfl,?_⟩
    refine aA 24 rfl<|AL.end (by kernel_rfl) (hKP hs (by simp) (by simp) (by simp)) (hKP hs (by simp) (by simp) (by simp)) ?_
    refine cr<|wm<|wP ((i+1:Nat):Int)<|wA<|wZ ?_
    have hv2:OwnSl 137 33 v53 (m.take (i+1)).length (rowsSt (m.take (i+1))) Lv53:=by
     rw[htk,length_append,rowsSt_snoc];exact hv53
    refine(show _∧_ from⟨rfl,_,?_,i+1,v53,Lv53,hlt,rfl,hv2,hs,rfl,rfl,rfl,trivial⟩)
    omega
  ·cases h
 ·obtain rfl:i=m.length:=by omega
  rw[take_length] at hvo
  refine cq<|sr<|wm<|wm<|wn rfl<|wF 7 u180 rfl ty35 rfl<|wl ty35 rfl ((hwc hs (by simp)).cell (j:=7) rfl)<|wL u35 rfl<|lF<|wZ<|CW.cond rfl (fun h=>?_) (fun h=>?_)
  ·cases h
  refine CW.exit<|sr<|wm<|wA<|wA<|wZ<|CW.ret ?_
  refine fin_ret2 rfl ?_
  exact⟨vo,Lo,R1,D1,congrArg (fun z:Int=>Ending.returned (.tuple #[vo,.int .i64 z])) he0.symm,hR1,hvo,Step.fin (M:=Lo) hw (by
   refine Step.dropL (L1:=(bw,blk 180 (wkC br (rmOf rn rd rb) r.2 (.slice la l.length lc) (.slice ma m.length mc)))::(LL++LM)) ?_
   exact hs.perm (perm_append_comm_assoc _ _ _))⟩
end
section
variable{br bp N:Nat}{s:AS}{D R L:OL}{d:U8}{rn rd rb:Int}{w0:World}
set_option maxHeartbeats 4000000 in
theorem reach_spec (hR:PRep bp s D L) (ok:s.Ok) (hfew:s.Few N) (hN:N<1000000000000) (hd:d.length=32) (hrm:(rmOf rn rd rb).Ok) (hw:Lives (L++D) w0) :
  CP 17 #[pt bp,.agg (u8s d).toArray,.agg #[.int .i64 rn,.int .i64 rd,.int .i64 rb]] w0 fun e w'=>∃v Lv L' D',e=.returned (.tuple #[v,.int .i64 (runs s (rmOf rn rd rb) [rootS d] ws0).1])∧
   PRep bp (s.gotN (runs s (rmOf rn rd rb) [rootS d] ws0).2.g) (D'++D) L'∧OwnSl 44 32 v (reachL (runs s (rmOf rn rd rb) [rootS d] ws0)).length (digsL (reachL (runs s (rmOf rn rd rb) [rootS d] ws0))) Lv∧Step (L.map (·.1)) (L'++(Lv++D')) w0 w':=by
 have hw9:=fun{w1:World} h=>fwalk_spec (w0:=w1) hR ok hfew hN hd hrm h
 have ob:∃r,runs s (rmOf rn rd rb) [rootS d] ws0=r:=⟨_,rfl⟩
 obtain⟨r,hr⟩:=ob
 rw[hr] at hw9⊢
 have hdl:(u8s d).length=32:=by rw[u8s,length_map,hd]
 have hs:Step (List.map (·.1) (L++D)) (L++D) w0 w0:=hw
 refine calls (n:=24) Tryz.func17 rfl rfl rfl ?_
 refine sr<|WL.box (cs:=u8s d) rfl rfl rfl hs (fun b4 w hs=>?_)
 refine WL.box (cs:=[.int .i64 rn,.int .i64 rd,.int .i64 rb]) rfl rfl rfl hs (fun b5 w hs=>?_)
 refine wA<|wA<|wZ<|sr<|wm<|wR ty44 rfl hdl hs.a1<|wR ty30 rfl rfl hs.a0<|wE rfl (run_call en64 rfl rfl) (hw9 (Lives.mk hs.tail.tail)) ?_
 rintro e w ⟨v,L1,D1,M,rfl,hP,hM,hnil,hq⟩
 refine⟨_,rfl,?_⟩
 replace hs:=Own.put (A:=[_,_]) (L:=L) hs hq
 refine wm<|wx rfl rfl<|wx rfl rfl<|wA<|wA<|wZ ?_
 replace hs:=hs.tail.tail
 by_cases he:r.1≠0
 ·have hre:reachL r=[]:=if_neg he
  rw[hre]
  refine cq<|sr<|wm<|wV (run_bT (run_neq rfl rfl) (by exact he))<|wZ<|CW.cond rfl (fun h=>?_) (fun h=>?_)
  ·refine sr<|wm<|wA<|wA<|wZ<|CW.ret ?_
   refine fin_ret2 rfl ?_
   exact⟨_,[],L1,M++D1,rfl,by rw[append_assoc];exact hP.mono mem_right,OwnSl.nil _ _,Step.fin (M:=[]) hw hs⟩
  ·cases h
 have he0:r.1=0:=by simpa using he
 have hre:reachL r=ordM r.2.m:=if_pos he0
 rw[hre]
 have ob:=hM he0
 obtain⟨bm,rfl,vO,LO,q1,M1,k1,q2,M2,k2,rfl,hO,hB,hPm⟩:=ob
 refine cq<|sr<|wm<|wV (run_bF (run_neq rfl rfl) (by exact he))<|wZ<|CW.cond rfl (fun h=>?_) (fun h=>?_)
 ·cases h
 refine ck<|sr<|wm<|wn rfl<|wF 0 u132 rfl ty35 rfl<|wl ty35 rfl ((by have h:=hs.has (bm,blk 132 [vO,.map (some q1),.map (some q2)]) (by simp);exact(cell_blk h 0).trans rfl))<|wA<|wA<|wZ<|CW.ret ?_
 refine fin_ret2 rfl ?_
 refine⟨vO,LO,L1,[(bm,blk 132 [vO,.map (some q1),.map (some q2)]),(q1,mapObj M1 k1),(q2,mapObj M2 k2)]++D1,congrArg (fun z:Int=>Ending.returned (.tuple #[vO,.int .i64 z])) he0.symm,by rw[append_assoc];exact hP.mono mem_right,hO,Step.fin (M:=LO) hw ?_⟩
 refine hs.perm ?_
 have e:L1++((((bm,blk 132 [vO,.map (some q1),.map (some q2)])::(q1,mapObj M1 k1)::(q2,mapObj M2 k2)::LO)++D1)++D)=L1++([(bm,blk 132 [vO,.map (some q1),.map (some q2)]),(q1,mapObj M1 k1),(q2,mapObj M2 k2)]++(LO++(D1++D))):=by simp[append_assoc]
 have e2:LO++(L1++(([(bm,blk 132 [vO,.map (some q1),.map (some q2)]),(q1,mapObj M1 k1),(q2,mapObj M2 k2)]++D1)++D))=LO++(L1++([(bm,blk 132 [vO,.map (some q1),.map (some q2)]),(q1,mapObj M1 k1),(q2,mapObj M2 k2)]++(D1++D))):=by simp[append_assoc]
 rw[e,e2]
 exact((perm_append_comm_assoc _ LO (D1++D)).append_left L1).trans (perm_append_comm_assoc L1 LO _)
end
end Go.Gx
namespace Go.Gx
open Go.Proofs Go.RowKit List
structure It where
 p:(List UInt8)
 d:Bool
 v:Value
 x:(List UInt8)
def lessP (s t:(List UInt8)):Bool:=decide (cmpF (partsL s) (partsL t)<0)
def itC (p:(List UInt8)) (dir:Bool) (v:Value):List Value:=[str p,.bool dir,v]
def its (l:List It):List Value:=l.flatMap fun x=>itC x.p x.d x.v
structure It.Ok (w:World) (x:It):Prop where
 hb:Sl w 1 x.v x.x.length (u8s x.x)
 lp:x.p.length≤9223372036854775807
 lb:x.x.length≤9223372036854775807
structure Its (w:World) (v:Value) (l:List It):Prop where
 sl:Sl w 3 v l.length (its l)
 ok:∀x∈l,x.Ok w
 len:l.length≤9223372036854775807
theorem its_at:∀{l:List It} (i j:Nat) (h:i<l.length),j<3→(its l)[i*3+j]?=(itC l[i].p l[i].d l[i].v)[j]?
 | x::l,0,j,_,hj=>by
  rw[its,flatMap_cons,Nat.zero_mul,Nat.zero_add,getElem?_append_left (by show j<3;exact hj)]
  rfl
 | x::l,i+1,j,h,hj=>by
  have h3:(itC x.p x.d x.v).length=3:=rfl
  rw[its,flatMap_cons,getElem?_append_right (by rw[h3];omega),h3,show(i+1)*3+j - 3=i*3+j by omega]
  have h2:=its_at (l:=l) i j (by simpa using h) hj
  simpa[its] using h2
theorem Its.at{w:World}{v:Value}{l:List It} (h:Its w v l){i:Nat}{x:It} (hx:l[i]?=some x):∃b off c,v=.slice (some ⟨b,off,none⟩) l.length c∧At w b (off+i*3) (itC x.p x.d x.v):=by
 have ob:=List.getElem?_eq_some_iff.1 hx
 obtain⟨hlt,rfl⟩:=ob
 have ob:=h.sl
 obtain⟨hl,⟨a,c,hc,h1⟩ | ⟨b,off,c,hc,hat⟩⟩:=ob
 ·omega
 ·refine⟨b,off,c,hc,fun j v hj=>?_⟩
  have hj3:j<3:=(List.getElem?_eq_some_iff.1 hj).1
  have h1:=its_at i j hlt hj3
  rw[Nat.add_assoc]
  exact hat _ _ (h1.trans hj)
theorem It.cells1{w:World}{x:It} (h:x.Ok w):Cells1 (itC x.p x.d x.v):=by
 intro v hv
 simp only[itC,mem_cons,not_mem_nil,or_false] at hv
 have ob:=h.hb.form
 obtain⟨a,c,he⟩:=ob
 rcases hv with rfl | rfl | rfl
 ·rfl
 ·rfl
 ·rw[he];rfl
theorem Step.own1{S:List Nat}{L:OL}{w0 w:World} (h:Step S L w0 w):Step (L.map (·.1)) L w w:=Lives.mk h
theorem joinL_cons{x:U8}{l:List (List UInt8)} (h:l≠[]):joinL (x::l)=x++47::joinL l:=by
 cases l with
 | nil=>exact absurd rfl h
 | cons y l=>simp[joinL,intercalate,intersperse]
theorem joinL_one (x:U8):joinL [x]=x:=by simp[joinL,intercalate]
theorem joinL_cc{c:UInt8}{p:U8}{ps:List (List UInt8)}:joinL ((c::p)::ps)=c::joinL (p::ps):=by
 cases ps with
 | nil=>rw[joinL_one,joinL_one]
 | cons y l=>rw[joinL_cons (x:=c::p) (l:=y::l) (by simp),joinL_cons (x:=p) (l:=y::l) (by simp)];rfl
theorem joinL_splitL:∀s,joinL (splitL s)=s
 | []=>by rw[splitL,joinL_one]
 | c::s=>by
  have ih:=joinL_splitL s
  rw[splitL]
  split
  ·rename_i h
   rw[joinL_cons (splitL_ne s),ih,h]
   rfl
  ·split
   ·rename_i h
    exact absurd h (splitL_ne s)
   ·rename_i p ps h
    rw[h] at ih
    rw[joinL_cc,ih]
theorem joinL_partsL (s:U8):joinL (partsL s)=s:=by
 unfold partsL
 split
 ·rename_i h;rw[h];rfl
 ·exact joinL_splitL s
theorem splitL_word:∀{p:U8},47∉p→splitL p=[p]
 | [],_=>rfl
 | c::p,h=>by
  have h1:c≠47:=fun e=>h (by simp[e])
  rw[splitL,if_neg h1,splitL_word (p:=p) (fun e=>h (by simp[e]))]
theorem splitL_app:∀{p s:U8},47∉p→splitL (p++47::s)=p::splitL s
 | [],s,_=>by rw[nil_append,splitL,if_pos rfl]
 | c::p,s,h=>by
  have h1:c≠47:=fun e=>h (by simp[e])
  rw[cons_append,splitL,if_neg h1,splitL_app (p:=p) (fun e=>h (by simp[e]))]
theorem isName_slash{p:U8} (h:isName p=true):47∉p:=fun hm=>by
 simp only[isName,Bool.and_eq_true,Bool.not_eq_true'] at h
 have:=any_eq_true.2 ⟨47,hm,(by decide:badCh 47=true)⟩
 rw[h.2] at this
 cases this
theorem isName_facts{p:U8} (h:isName p=true):p≠[]∧p≠[46]∧p≠[46,46]:=by
 simp only[isName,Bool.and_eq_true,decide_eq_true_eq] at h
 refine⟨fun e=>?_,h.1.2.2.1,h.1.2.2.2⟩
 rw[e] at h
 simp at h
theorem splitL_joinL:∀{row:List (List UInt8)},row≠[]→Named row→splitL (joinL row)=row
 | [x],_,h=>by rw[joinL_one,splitL_word (isName_slash (h x (by simp)))]
 | x::y::l,_,h=>by
  rw[joinL_cons (by simp),splitL_app (isName_slash (h x (by simp))),splitL_joinL (row:=y::l) (by simp) (fun p hp=>h p (by simp at hp⊢;exact .inr hp))]
theorem partsL_joinL{row:List (List UInt8)} (h:Named row):partsL (joinL row)=row:=by
 cases row with
 | nil=>rfl
 | cons x l=>
  have hx:=isName_facts (h x (by simp))
  have hne:joinL (x::l)≠[]:=by
   cases l with
   | nil=>rw[joinL_one];exact hx.1
   | cons y l=>rw[joinL_cons (by simp)];simp
  unfold partsL
  rw[if_neg hne]
  exact splitL_joinL (by simp) h
def splitR (p:(List UInt8)):(List UInt8)×(List UInt8)×Int:=
 if isCleanL p=false then ([],[],31) else if partsL p=[] then ([],[],32) else (joinL (partsL p).dropLast,(partsL p).getLastD [],0)
theorem partsL_nil{s:U8} (h:partsL s=[]):s=[]:=by
 have:=joinL_partsL s
 rw[h] at this
 exact this.symm
theorem clean_named{p:U8} (h:isCleanL p=true):Named (partsL p)∧(partsL p).length≤32:=by
 simp only[isCleanL,Bool.and_eq_true,decide_eq_true_eq,all_eq_true] at h
 exact h
theorem named_clean{row:List (List UInt8)} (h:Named row) (hl:row.length≤32):isCleanL (joinL row)=true∧partsL (joinL row)=row:=by
 have e:=partsL_joinL h
 refine⟨?_,e⟩
 simp only[isCleanL,Bool.and_eq_true,decide_eq_true_eq,all_eq_true,e]
 exact⟨h,hl⟩
theorem clean_len{p:U8} (h:isCleanL p=true):p.length≤2080:=by
 have ob:=clean_named h
 obtain⟨h1,h2⟩:=ob
 have h3:=join_len (partsL p)
 have h4:=named_join h1
 rw[joinL_partsL] at h3
 omega
theorem refLessP_spec{s t:U8} (w0:World) (hs1:s.length<4294967281) (ht1:t.length<4294967281):CP 150 #[str s,str t] w0 (Ret0 (.bool (lessP s t)) w0):=refLess_spec w0 hs1 ht1
theorem OwnSl.front{E j:Nat}{ps:List (List UInt8)}{Lv:OL}{a:Option Addr}{c:Nat} (h:OwnSl E 1 (.slice a ps.length c) ps.length (strs ps) Lv) (hj:j≤ps.length) (h0:0<ps.length):OwnSl E 1 (.slice a j c) j (strs (ps.take j)) Lv:=by
 have ob:=h.some1 h0
 obtain⟨b,cap,more,hq,hL,hc⟩:=ob
 cases hq
 have e:strs ps=strs (ps.take j)++strs (ps.drop j):=by
  unfold strs
  rw[←map_append,take_append_drop]
 refine⟨by rw[strs_len,length_take];omega,.inr ⟨b,c,strs (ps.drop j)++more,rfl,?_,?_⟩⟩
 ·rw[hL,e,append_assoc]
 ·rw[←append_assoc,←e]
  exact hc
theorem parent_spec{p:List UInt8} (w0:World) (hcl:isCleanL p=true) (hp0:p≠[]):CP 151 #[str p] w0 (Ret0 (str (splitR p).1) w0):=by
 have hs:Step [] [] w0 w0:=Step.refl w0
 have hpl:=clean_len hcl
 have h0:partsL p≠[]:=fun h=>hp0 (partsL_nil h)
 have ob:=clean_named hcl
 obtain⟨hnm,hn32⟩:=ob
 have e:(splitR p).1=joinL (partsL p).dropLast:=by
  unfold splitR
  rw[hcl,if_neg (by simp),if_neg h0]
 rw[e]
 have ob:∃ps,partsL p=ps:=⟨_,rfl⟩
 obtain⟨ps,hps⟩:=ob
 have hpt:=fun w=>refParts_spec (s:=p) w (by omega)
 simp only[hps] at hpt
 rw[hps] at h0 hnm hn32⊢
 have hl0:0<ps.length:=length_pos_iff.2 h0
 have hdl:ps.dropLast=ps.take (ps.length - 1):=dropLast_eq_take
 rw[hdl]
 have hsum:((ps.take (ps.length - 1)).map fun x=>x.length+1).sum≤9000000:=by
  have hgo:∀(l:List (List UInt8)),(∀x∈l,x.length≤64)→(l.map fun x=>x.length+1).sum≤l.length*65:=by
   intro l
   induction l with
   | nil=>intro _;simp
   | cons a l ih=>
    intro h
    have h1:=h a (by simp)
    have h2:=ih fun x hx=>h x (by simp[hx])
    simp only[map_cons,sum_cons,length_cons]
    omega
  have h1:=hgo (ps.take (ps.length - 1)) fun x hx=>isName_le (hnm x (mem_of_mem_take hx))
  rw[length_take] at h1
  omega
 refine calls (n:=12) Tryz.func151 rfl rfl rfl ?_
 refine sr<|wA<|wZ<|sr<|wm<|wE rfl (run_call en154 rfl rfl) (hpt _) ?_
 rintro e w ⟨u,Lu,rfl,hu,hq⟩
 refine⟨_,rfl,?_⟩
 have hs1:Step [] Lu w0 w:=hq
 replace hs:=hs1
 have hfu:=hu.form
 obtain⟨au,cu,hfe⟩:=hfu
 subst hfe
 refine wA<|wZ ?_
 have ob:=hu.some1 hl0
 obtain⟨b,cap,more,hqq,hL,hc⟩:=ob
 have hqq2:=hqq
 injection hqq2 with e1 e2 e3
 have hcap:ps.length - 1≤cu:=by
  rw[length_append,strs_len] at hc
  omega
 have hle:(ps.take (ps.length - 1)).length=ps.length - 1:=by rw[length_take];omega
 have hf:=OwnSl.front hu (Nat.sub_le ps.length 1) hl0
 subst e1
 have hpa:=fun {w} (hw:Step (Lu.map (·.1)) Lu w w)=>refPath_spec (u:=.slice (some ⟨b,0,none⟩) (ps.length - 1) cu) (ps:=ps.take (ps.length - 1)) w (by rw[hle];exact hf) hw hsum
 refine sr<|wm<|wm<|wV (run_lenSl u256 rfl)<|wV (run_sub (c:=((ps.length - 1:Nat):Int)) rfl rfl (by omega) (by omega))<|wV (run_sliceSl0 (hi:=ps.length - 1) (m:=cu) u256 ty9 rfl rfl rfl (by simp) (by omega) (Nat.le_refl _))<|wE rfl (run_call en184 rfl rfl) (hpa hs.own1) ?_
 rintro e w ⟨rfl,hq⟩
 refine⟨_,rfl,?_⟩
 replace hs:=hs.callE hq
 refine wA<|wZ<|CW.ret ?_
 refine fin_ret1 rfl ?_
 exact⟨rfl,hs.clear⟩
theorem up_len{p:U8} (hcl:isCleanL p=true) (hp0:p≠[]):(splitR p).1.length≤2080:=by
 have h0:partsL p≠[]:=fun h=>hp0 (partsL_nil h)
 have ob:=clean_named hcl
 obtain⟨hnm,hn32⟩:=ob
 have e:(splitR p).1=joinL (partsL p).dropLast:=by
  unfold splitR
  rw[hcl,if_neg (by simp),if_neg h0]
 have hd:(partsL p).dropLast.length=(partsL p).length - 1:=length_dropLast
 rw[e]
 exact clean_len (named_clean (row:=(partsL p).dropLast) (fun x hx=>hnm x ((dropLast_sublist _).subset hx)) (by omega)).1
def bC8 (B:List Nat):List Value:=B.map fun z=>.int .i64 (z:Nat)
theorem findS_spec{b o c i:Nat}{ps:List (List UInt8)}{p:U8} (w0:World) (hi:ps.length=i) (hil:i≤65536) (hc:i≤c) (hcell:∀(j:Nat) q,ps[j]?=some q→w0.cell? ⟨b,o+j*3,none⟩=some (str q)) (hl:∀q∈ps,q.length≤4096) (hpl:p.length≤4096) :
  CP 152 #[.slice (some ⟨b,o,none⟩) i c,str p] w0 fun e w'=>∃r:Int,e=.returned (.int .i64 r)∧(r = -1∨∃k:Nat,k<i∧r=k)∧Step [] [] w0 w':=by
 have hs:Step [] [] w0 w0:=Step.refl w0
 have hcl:=fun {L w j q} (hs:Step [] L w0 w) (hj:ps[j]?=some q)=>keepCell (hcell j q hj) hs
 have hls:=fun w q (hq:q∈ps)=>refLessP_spec (s:=q) (t:=p) w (by have:=hl q hq;omega) (by omega)
 refine calls (n:=41) Tryz.func152 rfl rfl rfl ?_
 refine sr<|wA<|wZ<|sr<|wA<|wZ<|sr<|wm<|wL u65 rfl<|wA<|wZ ?_
 refine cq<|cB<|CW.loop (fun z f w=>∃lo hi:Nat,lo≤hi∧hi≤i∧z=hi - lo∧Step [] [] w0 w∧Holds f [(0,.slice (some ⟨b,o,none⟩) i c),(1,str p),(5,.int .i64 lo),(6,.int .i64 hi)]) (m:=i) ?_ ?_
 ·exact⟨0,i,by omega,by omega,rfl,hs,rfl,rfl,rfl,rfl,trivial⟩
 clear hs
 rintro z f w ⟨lo,hi2,h2,h3,rfl,hs,hf⟩
 have ob:=hf.chain
 obtain⟨g,rfl⟩:=ob
 by_cases hlh:lo<hi2
 ·have ob:∃q,ps[(lo+hi2) / 2]?=some q:=⟨_,getElem?_eq_getElem (by omega)⟩
  obtain⟨q,hq⟩:=ob
  have hlq:=fun w=>hls w q (mem_of_getElem? hq)
  have hcq:=fun {L w} (hs:Step [] L w0 w)=>hcl hs hq
  have ob:∃lb,lessP q p=lb:=⟨_,rfl⟩
  obtain⟨lb,hlb⟩:=ob
  simp only[hlb] at hlq
  refine cq<|sr<|wm<|wm<|lT<|wZ<|CW.cond rfl (fun h=>?_) (fun h=>?_)
  ·refine ck<|cB<|sr<|wm<|wm<|wP ((lo+hi2:Nat):Int)<|wV (run_quoN (n:=lo+hi2) (m:=2) rfl rfl (by decide) (by omega))<|wA<|wZ ?_
   cases lb with
   | true=>
    refine sr<|wm<|wm<|wI u65 ty155 rfl rfl<|wF 0 u155 rfl ty9 rfl<|wl ty9 rfl (hcq hs)<|wm<|wE rfl (run_call en150 rfl rfl) (hlq _) ?_
    rintro e w ⟨rfl,hq⟩
    refine⟨_,rfl,?_⟩
    replace hs:=hs.callE hq
    refine wZ<|CW.cond rfl (fun hc2=>?_) (fun hc2=>?_)
    ·skip
     refine cr<|wm<|wP (((lo+hi2) / 2+1:Nat):Int)<|wA<|wZ<|(show _∧_ from⟨rfl,_,?_,(lo+hi2) / 2+1,hi2,by omega,by omega,rfl,hs,rfl,rfl,rfl,rfl,trivial⟩)
     omega
    ·cases hc2
   | false=>
    refine sr<|wm<|wm<|wI u65 ty155 rfl rfl<|wF 0 u155 rfl ty9 rfl<|wl ty9 rfl (hcq hs)<|wm<|wE rfl (run_call en150 rfl rfl) (hlq _) ?_
    rintro e w ⟨rfl,hq⟩
    refine⟨_,rfl,?_⟩
    replace hs:=hs.callE hq
    refine wZ<|CW.cond rfl (fun hc2=>?_) (fun hc2=>?_)
    ·cases hc2
    refine cr<|wm<|wA<|wZ<|(show _∧_ from⟨rfl,_,?_,lo,(lo+hi2) / 2,by omega,by omega,rfl,hs,rfl,rfl,rfl,rfl,trivial⟩)
    omega
  ·cases h
 ·refine cq<|sr<|wm<|wm<|lF<|wZ<|CW.cond rfl (fun h=>?_) (fun h=>?_)
  ·cases h
  refine CW.exit<|cq<|cq ?_
  by_cases hli:lo<i
  ·have ob:∃q,ps[lo]?=some q:=⟨_,getElem?_eq_getElem (by omega)⟩
   obtain⟨q,hq⟩:=ob
   by_cases hqp:q=p
   ·skip
    refine cr<|wm<|wm<|wL u65 rfl<|lT<|wm<|wy<|wm<|wy<|wm ?_
    refine wy ?_;(first | refine WL.val rfl (run_ixSlN u65 ty155 rfl rfl (by omega)) ?_ | refine WL.val rfl (run_ixSl u65 ty155 rfl rfl (by omega)) ?_)
    refine wy<|wF 0 u155 rfl ty9 rfl<|wy<|wl ty9 rfl (hcl hs hq)<|wy<|wm<|wy<|wV (run_bT (run_strEq rfl rfl) (by exact hqp))<|pT<|wZ<|CW.cond rfl (fun h=>?_) (fun h=>?_)
    ·refine sr<|wm<|wA<|wZ<|CW.ret ?_
     refine fin_ret1 rfl ?_
     exact⟨_,rfl,.inr ⟨lo,hli,rfl⟩,hs⟩
    ·cases h
   ·skip
    refine cr<|wm<|wm<|wL u65 rfl<|lT<|wm<|wy<|wm<|wy<|wm ?_
    refine wy ?_;(first | refine WL.val rfl (run_ixSlN u65 ty155 rfl rfl (by omega)) ?_ | refine WL.val rfl (run_ixSl u65 ty155 rfl rfl (by omega)) ?_)
    refine wy<|wF 0 u155 rfl ty9 rfl<|wy<|wl ty9 rfl (hcl hs hq)<|wy<|wm<|wy<|wV (run_bF (run_strEq rfl rfl) (by exact hqp))<|pT<|wZ<|CW.cond rfl (fun h=>?_) (fun h=>?_)
    ·cases h
    refine ck<|sr<|wA<|wZ<|CW.ret ?_
    refine fin_ret1 rfl ?_
    exact⟨_,rfl,.inl rfl,hs⟩
  ·skip
   refine cr<|wm<|wm<|wL u65 rfl<|lF<|wm<|wz<|wz<|wz<|wz<|wz<|wz<|wz<|pF<|wZ ?_
   refine CW.cond rfl (fun h=>?_) (fun h=>?_)
   ·cases h
   refine ck<|sr<|wA<|wZ<|CW.ret ?_
   refine fin_ret1 rfl ?_
   exact⟨_,rfl,.inl rfl,hs⟩
def GoodIt (x:It):Prop:=isCleanL x.p=true∧x.p≠[]∧x.x.length≤1048576
set_option maxHeartbeats 8000000 in
theorem isTreeS_spec{v:Value}{l:List It} (w0:World) (hl:Its w0 v l) (hpl:∀x∈l,x.p.length<4294967281) (hroom:Room v) :
  CP 108 #[v] w0 fun e w'=>∃b,e=.returned (.bool b)∧(b=true→l.length<65536∧∀x∈l,GoodIt x)∧Step [] [] w0 w':=by
 have hs:Step [] [] w0 w0:=Step.refl w0
 have ob:=hl.sl.form
 obtain⟨av,cv,rfl⟩:=ob
 have hlen:=hl.len
 have hrm:l.length≤cv:=hroom
 by_cases hbig:65536≤l.length
 ·refine calls (n:=105) Tryz.func108 rfl rfl rfl ?_
  refine sr<|wA<|wZ<|cq<|sr<|wm<|wL u65 rfl<|jT<|wZ<|CW.cond rfl (fun h=>?_) (fun h=>?_)
  ·refine sr<|wA<|wZ<|CW.ret ?_
   refine fin_ret1 rfl ?_
   exact⟨false,rfl,(fun h=>by cases h),hs⟩
  ·cases h
 have ob:∃n,l.length=n:=⟨_,rfl⟩
 obtain⟨n,hn⟩:=ob
 rw[hn] at hbig hlen
 refine calls (n:=105) Tryz.func108 rfl rfl rfl ?_
 refine sr<|wA<|wZ<|cq<|sr<|wm<|wL u65 rfl<|jF<|wZ<|CW.cond rfl (fun h=>?_) (fun h=>?_)
 ·cases h
 refine ck<|sr<|wA<|wZ<|sr<|wm<|wL u65 rfl<|wP ((l.length+1:Nat):Int)<|WL.makeSlice (k:=l.length+1) u25 ty3 rfl (by omega) (by omega) rfl rfl rfl hs (fun b15 w hs=>?_)
 refine wA<|wZ<|cq<|sr<|wA<|wZ ?_
 have hB0:bC8 (List.replicate (l.length+1) 0)=List.replicate (l.length+1) (.int .i64 0):=by rw[bC8,map_replicate];rfl
 refine cB<|CW.loop (fun z f w=>∃i tot B,i≤n∧z=n - i∧(∀j y,j<i→l[j]?=some y→GoodIt y)∧tot≤i*1048576∧B.length=n+1∧(∀q∈B,q≤1024)∧Step [] [(b15,blk 3 (bC8 B))] w0 w∧Holds f [(0,.slice av l.length cv),(3,.int .i64 (tot:Nat)),(4,.slice (some ⟨b15,0,none⟩) (l.length+1) (l.length+1)),(5,.int .i64 (i:Nat))]) (m:=n) ?_ ?_
 ·refine⟨0,0,List.replicate (l.length+1) 0,by omega,by omega,fun j y hj=>by omega,by omega,by simp[hn],fun q hq=>?_,?_,rfl,rfl,rfl,rfl,trivial⟩
  ·rw[(mem_replicate.1 hq).2];omega
  ·rw[hB0]
   have e0:(List.replicate (l.length+1) [Value.int IntKind.i64 0]).flatten=List.replicate (l.length+1) (Value.int IntKind.i64 0):=by simp
   rw[←e0];exact hs
 clear hs
 rintro z f w ⟨i,tot,B,hi,rfl,hgood,htot,hBl,hB,hs,hf⟩
 have ob:=hf.chain
 obtain⟨g,rfl⟩:=ob
 have hbl:(bC8 B).length=n+1:=by rw[bC8,length_map,hBl]
 by_cases hlt:i<n
 ·have ob:∃x,l[i]?=some x:=⟨_,getElem?_eq_getElem (by omega)⟩
  obtain⟨x,hx⟩:=ob
  have hxm:=mem_of_getElem? hx
  have hxo:=hl.ok x hxm
  have hxl:=hpl x hxm
  have hxc:=It.cells1 hxo
  have ob:=hl.at hx
  obtain⟨bl,ol,cl,hc0,hat0⟩:=ob
  have hc1:=hc0
  injection hc1 with hav _ _
  have hrow:∀{j:Nat}{y:It},l[j]?=some y→At w0 bl (ol+j*3) (itC y.p y.d y.v):=fun {j y} hy=>by
   have ob:=hl.at hy
   obtain⟨b',o',c',h1,h2⟩:=ob
   rw[hc0] at h1
   cases h1
   exact h2
  clear hat0 hc0
  subst hav
  have ob:=hxo.hb.form
  obtain⟨ax,cx,hvx⟩:=ob
  have hev:(itC x.p x.d x.v)[0+2]?=some (.slice ax x.x.length cx):=by show some x.v=_;rw[hvx]
  have hcl1:=fun w=>refIsClean_spec (s:=x.p) w hxl
  have ob:∃b,isCleanL x.p=b:=⟨_,rfl⟩
  obtain⟨icl,hicl⟩:=ob
  simp only[hicl] at hcl1
  have hlb:=hxo.lb
  refine cq<|sr<|wm<|wm<|wL u65 rfl<|lT<|wZ<|CW.cond rfl (fun h=>?_) (fun h=>?_)
  ·refine ck<|cq<|cB<|sr<|wm<|wm<|wI u65 ty155 rfl rfl<|wR ty155 rfl rfl ((hrow hx).step hs (by simp))<|WL.alloc ty155 rfl hs (fun b6 w hs=>?_)
   refine WL.storeAll ty155 rfl rfl ((rfl)) (hxc) hs (by rfl) (fun w hs=>?_)
   refine wZ<|CW.seqM (fun f w=>isCleanL x.p=true∧x.p≠[]∧Step [] [(b6,blk 155 (itC x.p x.d x.v)),(b15,blk 3 (bC8 B))] w0 w∧Holds f [(0,.slice (some ⟨bl,ol,none⟩) l.length cv),(3,.int .i64 (tot:Nat)),(4,.slice (some ⟨b15,0,none⟩) (l.length+1) (l.length+1)),(5,.int .i64 (i:Nat)),(6,pt b6)]) ?_ ?_
   ·by_cases hp:x.p=[]
    ·refine cq<|CW.quiet mixedP (by kernel_rfl) hs ?_
     refine qF 0 u155 rfl ty9 rfl<|qL ty9 rfl (fun w hs=>hs.c0 (v:=str x.p) rfl)<|qV (fun w hs=>run_bT (run_strEq rfl rfl) (by exact hp))<|qm<|qz<|qz<|qz<|qz<|qT<|qm<|qz<|qz<|qz<|qz ?_
     refine qz<|qz<|qz<|qz<|qz<|qz<|qz<|qz<|qz<|qz<|qT<|QL.nil (fun w hs=>?_)
     refine CW.cond rfl (fun h=>?_) (fun h=>?_)
     ·refine sr<|wA<|wZ<|CW.ret ?_
      refine fin_ret1 rfl ?_
      exact⟨false,rfl,(fun h=>by cases h),hs.clear⟩
     ·cases h
    by_cases hic:icl=true
    case neg=>
     have hic:icl=false:=by simpa using hic
     subst hic
     refine cq<|CW.quiet mixedP (by kernel_rfl) hs ?_
     refine qF 0 u155 rfl ty9 rfl<|qL ty9 rfl (fun w hs=>hs.c0 (v:=str x.p) rfl)<|qV (fun w hs=>run_bF (run_strEq rfl rfl) (by exact hp))<|qm<|qy<|qF 0 u155 rfl ty9 rfl<|qy<|qL ty9 rfl (fun w hs=>hs.c0 (v:=str x.p) rfl)<|qy<|QL.enter rfl (fun w=>run_call en149 rfl rfl) (fun w hs=>hcl1 _) ?_
     refine qy ?_;(first | refine QL.val rfl (fun w hs=>run_notB rfl) ?_ | refine QL.val rfl (fun w hs=>run_not rfl) ?_)
     refine qP<|qm<|qz<|qz<|qz<|qz<|qz<|qz<|qz<|qz<|qz<|qz<|qz<|qz ?_
     refine qz<|qz<|qT<|QL.nil (fun w hs=>?_)
     refine CW.cond rfl (fun h=>?_) (fun h=>?_)
     ·refine sr<|wA<|wZ<|CW.ret ?_
      refine fin_ret1 rfl ?_
      exact⟨false,rfl,(fun h=>by cases h),hs.clear⟩
     ·cases h
    subst hic
    by_cases hi0:i=0
    ·refine cq<|CW.quiet mixedP (by kernel_rfl) hs ?_
     refine qF 0 u155 rfl ty9 rfl<|qL ty9 rfl (fun w hs=>hs.c0 (v:=str x.p) rfl)<|qV (fun w hs=>run_bF (run_strEq rfl rfl) (by exact hp))<|qm<|qy<|qF 0 u155 rfl ty9 rfl<|qy<|qL ty9 rfl (fun w hs=>hs.c0 (v:=str x.p) rfl)<|qy<|QL.enter rfl (fun w=>run_call en149 rfl rfl) (fun w hs=>hcl1 _) ?_
     refine qy ?_;(first | refine QL.val rfl (fun w hs=>run_notB rfl) ?_ | refine QL.val rfl (fun w hs=>run_not rfl) ?_)
     refine qP<|qm<|qy<|qm<|qy<|qV (fun w hs=>run_bF (run_gtr rfl rfl) (by omega))<|qy<|qm<|qz<|qz<|qz<|qz<|qz<|qz ?_
     refine qz<|qz<|qz<|qz ?_
     refine qy ?_;(first | refine QL.val rfl (fun w hs=>run_pickT rfl) ?_ | refine QL.val rfl (fun w hs=>run_pickF rfl) ?_)
     refine qP<|QL.nil (fun w hs=>?_)
     refine CW.cond rfl (fun h=>?_) (fun h=>?_)
     ·cases h
     refine ck ?_
     exact⟨rfl,hicl,hp,hs,rfl,rfl,rfl,rfl,rfl,trivial⟩
    ·have ob:∃y,l[i - 1]?=some y:=⟨_,getElem?_eq_getElem (by omega)⟩
     obtain⟨y,hy⟩:=ob
     have hxl2:=clean_len hicl
     have hyl2:=clean_len (hgood (i - 1) y (by omega) hy).1
     have hless:=fun w=>refLessP_spec (s:=y.p) (t:=x.p) w (by omega) (by omega)
     have ob:∃b,lessP y.p x.p=b:=⟨_,rfl⟩
     obtain⟨ls,hls⟩:=ob
     simp only[hls] at hless
     have hyc:=fun {L' w} (hs:Step [] L' w0 w)=>((hrow hy).step hs (by simp)).cell (j:=0) (v:=str y.p) rfl
     by_cases hlt2:ls=true
     ·subst hlt2
      refine cq<|CW.quiet mixedP (by kernel_rfl) hs ?_
      refine qF 0 u155 rfl ty9 rfl<|qL ty9 rfl (fun w hs=>hs.c0 (v:=str x.p) rfl)<|qV (fun w hs=>run_bF (run_strEq rfl rfl) (by exact hp))<|qm<|qy<|qF 0 u155 rfl ty9 rfl<|qy<|qL ty9 rfl (fun w hs=>hs.c0 (v:=str x.p) rfl)<|qy<|QL.enter rfl (fun w=>run_call en149 rfl rfl) (fun w hs=>hcl1 _) ?_
      refine qy ?_;(first | refine QL.val rfl (fun w hs=>run_notB rfl) ?_ | refine QL.val rfl (fun w hs=>run_not rfl) ?_)
      refine qP<|qm<|qy<|qm<|qy<|qV (fun w hs=>run_bT (run_gtr rfl rfl) (by omega))<|qy<|qm<|qy<|qm<|qy<|qm<|qy<|qV (fun w hs=>run_sub (c:=((i - 1:Nat):Int)) rfl rfl (by omega) (by omega)) ?_
      refine qy ?_;(first | refine QL.val rfl (fun w hs=>run_ixSlN u65 ty155 rfl rfl (by omega)) ?_ | refine QL.val rfl (fun w hs=>run_ixSl u65 ty155 rfl rfl (by omega)) ?_)
      refine qy<|qF 0 u155 rfl ty9 rfl<|qy<|qL ty9 rfl (fun w hs=>hyc hs)<|qy<|qF 0 u155 rfl ty9 rfl<|qy<|qL ty9 rfl (fun w hs=>hs.c0 (v:=str x.p) rfl)<|qy<|QL.enter rfl (fun w=>run_call en150 rfl rfl) (fun w hs=>hless _) ?_
      refine qy ?_;(first | refine QL.val rfl (fun w hs=>run_notB rfl) ?_ | refine QL.val rfl (fun w hs=>run_not rfl) ?_)
      refine qy ?_;(first | refine QL.val rfl (fun w hs=>run_pickT rfl) ?_ | refine QL.val rfl (fun w hs=>run_pickF rfl) ?_)
      refine qP<|QL.nil (fun w hs=>?_)
      refine CW.cond rfl (fun h=>?_) (fun h=>?_)
      ·cases h
      refine ck ?_
      exact⟨rfl,hicl,hp,hs,rfl,rfl,rfl,rfl,rfl,trivial⟩
     ·have hlt2:ls=false:=by simpa using hlt2
      subst hlt2
      refine cq<|CW.quiet mixedP (by kernel_rfl) hs ?_
      refine qF 0 u155 rfl ty9 rfl<|qL ty9 rfl (fun w hs=>hs.c0 (v:=str x.p) rfl)<|qV (fun w hs=>run_bF (run_strEq rfl rfl) (by exact hp))<|qm<|qy<|qF 0 u155 rfl ty9 rfl<|qy<|qL ty9 rfl (fun w hs=>hs.c0 (v:=str x.p) rfl)<|qy<|QL.enter rfl (fun w=>run_call en149 rfl rfl) (fun w hs=>hcl1 _) ?_
      refine qy ?_;(first | refine QL.val rfl (fun w hs=>run_notB rfl) ?_ | refine QL.val rfl (fun w hs=>run_not rfl) ?_)
      refine qP<|qm<|qy<|qm<|qy<|qV (fun w hs=>run_bT (run_gtr rfl rfl) (by omega))<|qy<|qm<|qy<|qm<|qy<|qm<|qy<|qV (fun w hs=>run_sub (c:=((i - 1:Nat):Int)) rfl rfl (by omega) (by omega)) ?_
      refine qy ?_;(first | refine QL.val rfl (fun w hs=>run_ixSlN u65 ty155 rfl rfl (by omega)) ?_ | refine QL.val rfl (fun w hs=>run_ixSl u65 ty155 rfl rfl (by omega)) ?_)
      refine qy<|qF 0 u155 rfl ty9 rfl<|qy<|qL ty9 rfl (fun w hs=>hyc hs)<|qy<|qF 0 u155 rfl ty9 rfl<|qy<|qL ty9 rfl (fun w hs=>hs.c0 (v:=str x.p) rfl)<|qy<|QL.enter rfl (fun w=>run_call en150 rfl rfl) (fun w hs=>hless _) ?_
      refine qy ?_;(first | refine QL.val rfl (fun w hs=>run_notB rfl) ?_ | refine QL.val rfl (fun w hs=>run_not rfl) ?_)
      refine qy ?_;(first | refine QL.val rfl (fun w hs=>run_pickT rfl) ?_ | refine QL.val rfl (fun w hs=>run_pickF rfl) ?_)
      refine qP<|QL.nil (fun w hs=>?_)
      refine CW.cond rfl (fun h=>?_) (fun h=>?_)
      ·refine sr<|wA<|wZ<|CW.ret ?_
       refine fin_ret1 rfl ?_
       exact⟨false,rfl,(fun h=>by cases h),hs.clear⟩
      ·cases h
   clear hs
   rintro f w ⟨hic,hp,hs,hf⟩
   have hxl2:=clean_len hic
   refine CW.seqM (fun f w=>x.x.length≤1048576∧Step [] [(b6,blk 155 (itC x.p x.d x.v)),(b15,blk 3 (bC8 B))] w0 w∧Holds f [(0,.slice (some ⟨bl,ol,none⟩) l.length cv),(3,.int .i64 (tot:Nat)),(4,.slice (some ⟨b15,0,none⟩) (l.length+1) (l.length+1)),(5,.int .i64 (i:Nat)),(6,pt b6)]) ?_ ?_
   ·have ob:=hf.chain
    obtain⟨g,rfl⟩:=ob
    by_cases hd:x.d=true
    ·by_cases h0:0<x.x.length
     ·refine sr<|wF 1 u155 rfl ty4 rfl<|wl ty4 rfl (hs.c0 (v:=.bool true) (by show some (Value.bool x.d)=_;rw[hd]))<|wm<|wy<|wF 2 u155 rfl ty76 rfl<|wy<|wl ty76 rfl (hs.c0 (v:=.slice ax x.x.length cx) hev)<|wy<|wL u76 rfl<|wy<|xT<|pT<|wm<|wz<|wz<|wz<|wz<|pT<|wZ ?_
      refine CW.cond rfl (fun h=>?_) (fun h=>?_)
      ·refine sr<|wA<|wZ<|CW.ret ?_
       refine fin_ret1 rfl ?_
       exact⟨false,rfl,(fun h=>by cases h),hs.clear⟩
      ·cases h
     ·have h6:x.x.length≤1048576:=by omega
      refine sr<|wF 1 u155 rfl ty4 rfl<|wl ty4 rfl (hs.c0 (v:=.bool true) (by show some (Value.bool x.d)=_;rw[hd]))<|wm<|wy<|wF 2 u155 rfl ty76 rfl<|wy<|wl ty76 rfl (hs.c0 (v:=.slice ax x.x.length cx) hev)<|wy<|wL u76 rfl<|wy<|xF<|pT<|wm ?_
      refine wy<|wF 2 u155 rfl ty76 rfl<|wy<|wl ty76 rfl (hs.c0 (v:=.slice ax x.x.length cx) hev)<|wy<|wL u76 rfl<|wy<|xF<|pF<|wZ<|CW.cond rfl (fun h=>?_) (fun h=>?_)
      ·cases h
      refine ck ?_
      exact⟨rfl,h6,hs,rfl,rfl,rfl,rfl,rfl,trivial⟩
    ·have hd2:x.d=false:=by simpa using hd
     by_cases h0:1048576<x.x.length
     ·refine sr<|wF 1 u155 rfl ty4 rfl<|wl ty4 rfl (hs.c0 (v:=.bool false) (by show some (Value.bool x.d)=_;rw[hd2]))<|wm<|wz<|wz<|wz<|wz<|pF<|wm<|wy<|wF 2 u155 rfl ty76 rfl<|wy<|wl ty76 rfl (hs.c0 (v:=.slice ax x.x.length cx) hev) ?_
      refine wy<|wL u76 rfl<|wy<|xT<|pF<|wZ<|CW.cond rfl (fun h=>?_) (fun h=>?_)
      ·refine sr<|wA<|wZ<|CW.ret ?_
       refine fin_ret1 rfl ?_
       exact⟨false,rfl,(fun h=>by cases h),hs.clear⟩
      ·cases h
     ·have h6:x.x.length≤1048576:=by omega
      refine sr<|wF 1 u155 rfl ty4 rfl<|wl ty4 rfl (hs.c0 (v:=.bool false) (by show some (Value.bool x.d)=_;rw[hd2]))<|wm<|wz<|wz<|wz<|wz<|pF<|wm<|wy<|wF 2 u155 rfl ty76 rfl<|wy<|wl ty76 rfl (hs.c0 (v:=.slice ax x.x.length cx) hev) ?_
      refine wy<|wL u76 rfl<|wy<|xF<|pF<|wZ<|CW.cond rfl (fun h=>?_) (fun h=>?_)
      ·cases h
      refine ck ?_
      exact⟨rfl,h6,hs,rfl,rfl,rfl,rfl,rfl,trivial⟩
   clear hs hf
   rintro f w ⟨h6,hs,hf⟩
   have ob:=hf.chain
   obtain⟨g,rfl⟩:=ob
   have hpar:=fun w=>parent_spec (p:=x.p) w hic hp
   have ob:∃pu,(splitR x.p).1=pu:=⟨_,rfl⟩
   obtain⟨pu,hpu⟩:=ob
   have hpul:pu.length≤2080:=by rw[←hpu];exact up_len hic hp
   simp only[hpu] at hpar
   refine sr<|wm<|wF 2 u155 rfl ty76 rfl<|wl ty76 rfl (hs.c0 (v:=.slice ax x.x.length cx) hev)<|wL u76 rfl<|wP ((tot+x.x.length:Nat):Int)<|wA<|wZ<|sr<|wm<|wL u65 rfl<|wA<|wZ<|sr<|wF 0 u155 rfl ty9 rfl<|wl ty9 rfl (hs.c0 (v:=str x.p) rfl) ?_
   refine wE rfl (run_call en151 rfl rfl) (hpar _) ?_
   rintro e w ⟨rfl,hq⟩
   refine⟨_,rfl,?_⟩
   replace hs:=hs.callE hq
   refine wA<|wZ<|CW.seqM (fun f w=>∃a,a≤l.length∧Step [] [(b6,blk 155 (itC x.p x.d x.v)),(b15,blk 3 (bC8 B))] w0 w∧Holds f [(0,.slice (some ⟨bl,ol,none⟩) l.length cv),(3,.int .i64 ((tot+x.x.length:Nat):Int)),(4,.slice (some ⟨b15,0,none⟩) (l.length+1) (l.length+1)),(5,.int .i64 (i:Nat)),(7,.int .i64 (a:Nat))]) ?_ ?_
   ·by_cases hu0:pu=[]
    ·refine sr<|wm<|wV (run_bF (run_strNe rfl rfl) (by exact fun h=>h hu0))<|wZ<|CW.cond rfl (fun h=>?_) (fun h=>?_)
     ·cases h
     refine ck ?_
     exact⟨rfl,l.length,Nat.le_refl _,hs,rfl,rfl,rfl,rfl,rfl,trivial⟩
    have hcapn:i≤cv:=by omega
    have ob:∃ps,(l.take i).map (·.p)=ps:=⟨_,rfl⟩
    obtain⟨ps,hps⟩:=ob
    have hpsl:ps.length=i:=by rw[←hps,length_map,length_take];omega
    have hpsj:∀(j:Nat) q,ps[j]?=some q→∃y:It,j<i∧l[j]?=some y∧y.p=q:=fun j q hj=>by
     rw[←hps,getElem?_map,getElem?_take] at hj
     split at hj
     ·rename_i hji
      cases hq:l[j]? with
      | none=>rw[hq] at hj;cases hj
      | some y=>
       rw[hq] at hj
       exact⟨y,hji,rfl,by simpa using hj⟩
     ·cases hj
    have hfind:=fun {L' w} (hs:Step [] L' w0 w)=>findS_spec (b:=bl) (o:=ol) (c:=cv) (i:=i) (ps:=ps) (p:=pu) w hpsl (by omega) hcapn (fun j q hj=>by
     have ob:=hpsj j q hj
     obtain⟨y,hji,hy,hyp⟩:=ob
     rw[←hyp]
     exact((hrow hy).step hs (by simp)).cell (j:=0) rfl) (fun q hq=>by
     have ob:=mem_iff_getElem?.1 hq
     obtain⟨j,hj⟩:=ob
     have ob:=hpsj j q hj
     obtain⟨y,hji,hy,hyp⟩:=ob
     rw[←hyp]
     have:=clean_len (hgood j y hji hy).1
     omega) (by omega)
    refine sr<|wm<|wV (run_bT (run_strNe rfl rfl) (by exact hu0))<|wZ<|CW.cond rfl (fun h=>?_) (fun h=>?_)
    ·refine sr<|wm<|wm<|wV (run_sliceSl0 (hi:=i) (m:=cv) u65 ty155 rfl rfl rfl (by simp) (by omega) (Nat.le_refl _))<|wm<|wE rfl (run_call en152 rfl rfl) (hfind hs) ?_
     rintro e w ⟨r,rfl,hr,hq⟩
     refine⟨_,rfl,?_⟩
     replace hs:=hs.callE hq
     refine wA<|wZ ?_
     by_cases hr1:r = -1
     ·refine sr<|wm<|lT<|wm<|wz<|wz<|wz<|wz<|wz<|wz<|pT<|wZ<|CW.cond rfl (fun h2=>?_) (fun h2=>?_)
      ·refine sr<|wA<|wZ<|CW.ret ?_
       refine fin_ret1 rfl ?_
       exact⟨false,rfl,(fun h=>by cases h),hs.clear⟩
      ·cases h2
     ·have ob:∃k:Nat,k<i∧r=k:=hr.resolve_left hr1
      obtain⟨k,hk,rfl⟩:=ob
      have ob:∃y,l[k]?=some y:=⟨_,getElem?_eq_getElem (by omega)⟩
      obtain⟨y,hy⟩:=ob
      have hkc:=fun {L' w} (hs:Step [] L' w0 w)=>((hrow hy).step hs (by simp)).cell (j:=1) (v:=.bool y.d) rfl
      have ob:∃b,y.d=b:=⟨_,rfl⟩
      obtain⟨yd,hyd⟩:=ob
      simp only[hyd] at hkc
      cases yd with
      | true=>
       refine sr<|wm<|lF<|wm<|wy<|wm<|wy<|wm ?_
       refine wy ?_;(first | refine WL.val rfl (run_ixSlN u65 ty155 rfl rfl (by omega)) ?_ | refine WL.val rfl (run_ixSl u65 ty155 rfl rfl (by omega)) ?_)
       refine wy<|wF 1 u155 rfl ty4 rfl<|wy<|wl ty4 rfl (hkc hs) ?_
       refine wy ?_;(first | refine WL.val rfl (run_notB rfl) ?_ | refine WL.val rfl (run_not rfl) ?_)
       refine pF<|wZ<|CW.cond rfl (fun h2=>?_) (fun h2=>?_)
       ·cases h2
       refine ck ?_
       exact⟨rfl,k,by omega,hs,rfl,rfl,rfl,rfl,rfl,trivial⟩
      | false=>
       refine sr<|wm<|lF<|wm<|wy<|wm<|wy<|wm ?_
       refine wy ?_;(first | refine WL.val rfl (run_ixSlN u65 ty155 rfl rfl (by omega)) ?_ | refine WL.val rfl (run_ixSl u65 ty155 rfl rfl (by omega)) ?_)
       refine wy<|wF 1 u155 rfl ty4 rfl<|wy<|wl ty4 rfl (hkc hs) ?_
       refine wy ?_;(first | refine WL.val rfl (run_notB rfl) ?_ | refine WL.val rfl (run_not rfl) ?_)
       refine pF<|wZ<|CW.cond rfl (fun h2=>?_) (fun h2=>?_)
       ·refine sr<|wA<|wZ<|CW.ret ?_
        refine fin_ret1 rfl ?_
        exact⟨false,rfl,(fun h=>by cases h),hs.clear⟩
       ·cases h2
    ·cases h
   clear hs hf
   rintro f w ⟨a,ha,hs,hf⟩
   have ob:=hf.chain
   obtain⟨g,rfl⟩:=ob
   have ob:∃q,B[a]?=some q:=⟨_,getElem?_eq_getElem (by omega)⟩
   obtain⟨q,hq⟩:=ob
   have hq1024:=hB q (mem_of_getElem? hq)
   have hqc:(bC8 B)[0+a*1]?=some (.int .i64 (q:Nat)):=by rw[Nat.zero_add,Nat.mul_one,bC8,getElem?_map,hq];rfl
   have hset:(bC8 B).set (0+a*1) (.int .i64 ((q+1:Nat):Int))=bC8 (B.set a (q+1)):=by rw[Nat.zero_add,Nat.mul_one,bC8,bC8,map_set]
   have hqc2:(bC8 (B.set a (q+1)))[0+a*1]?=some (.int .i64 ((q+1:Nat):Int)):=by rw[Nat.zero_add,Nat.mul_one,bC8,getElem?_map,getElem?_set_self (by omega)];rfl
   replace hs:=hs.tail
   refine sr<|wm<|wm<|wI u25 ty3 rfl rfl<|wl ty3 rfl (hs.c0 hqc)<|wP ((q+1:Nat):Int)<|wI u25 ty3 rfl rfl<|ws1 ty3 rfl rfl (rfl) hs (fun w hs=>?_)
   refine wZ ?_
   replace hs:Step [] [(b15,blk 3 (bC8 (B.set a (q+1))))] w0 w:=by rw[←hset];exact hs
   by_cases hover:1024<q+1
   ·refine sr<|wm<|wm<|wI u25 ty3 rfl rfl<|wl ty3 rfl (hs.c0 hqc2)<|xT<|wZ<|CW.cond rfl (fun h=>?_) (fun h=>?_)
    ·refine sr<|wA<|wZ<|CW.ret ?_
     refine fin_ret1 rfl ?_
     exact⟨false,rfl,(fun h=>by cases h),hs.clear⟩
    ·cases h
   refine sr<|wm<|wm<|wI u25 ty3 rfl rfl<|wl ty3 rfl (hs.c0 hqc2)<|xF<|wZ<|CW.cond rfl (fun h=>?_) (fun h=>?_)
   ·cases h
   refine ck<|cr<|wm<|wP ((i+1:Nat):Int)<|wA<|wZ<|(show _∧_ from⟨rfl,_,?_,i+1,tot+x.x.length,B.set a (q+1),hlt,rfl,?_,by omega,by rw[length_set];exact hBl,?_,hs,rfl,rfl,rfl,rfl,trivial⟩)
   ·omega
   ·intro j y hj hy
    by_cases hji:j=i
    ·subst hji
     rw[hx] at hy
     obtain rfl:=Option.some.inj hy
     exact⟨hic,hp,h6⟩
    ·exact hgood j y (by omega) hy
   ·intro z hz
    rcases mem_or_eq_of_mem_set hz with hz | rfl
    ·exact hB z hz
    ·omega
  ·cases h
 ·obtain rfl:i=n:=by omega
  have hall:l.length<65536∧∀x∈l,GoodIt x:=⟨by omega,fun x hx=>by
   have ob:=mem_iff_getElem?.1 hx
   obtain⟨j,hj⟩:=ob
   exact hgood j x (by have:=(List.getElem?_eq_some_iff.1 hj).1;omega) hj⟩
  refine cq<|sr<|wm<|wm<|wL u65 rfl<|lF<|wZ<|CW.cond rfl (fun h=>?_) (fun h=>?_)
  ·cases h
  refine CW.exit<|sr<|wm<|wV (run_leq rfl rfl)<|wA<|wZ<|CW.ret ?_
  refine fin_ret1 rfl ?_
  exact⟨_,rfl,fun _=>hall,hs.clear⟩
end Go.Gx
namespace Go.Gx
open Go.Proofs Go.RowKit List
attribute [local irreducible] shaL cutD frontL
theorem enc_len{l:List Ent} (ho:Oks l) (hc:checkE l=0):(encB l).length≤1000000:=by
 have hlen:l.length≤1024:=by
  unfold checkE at hc
  split at hc
  ·cases hc
  ·omega
 have herr:errE [] l=0:=by
  unfold checkE at hc
  rwa [if_neg (by omega)] at hc
 have h1:=encB_len ho (fun x hx=>isName_len (errE_ok l [] herr x hx).2)
 have h2:=formB_len 1
 have h3:=formB_len l.length
 simp only[encB,length_append]
 omega
theorem OwnSl.slW{E:TypeId}{sz k:Nat}{v:Value}{xs:List Value}{Lv:OL}{w:World} (h:OwnSl E sz v k xs Lv) (hw:∀p∈Lv,w.heap[p.1]?=some p.2):Sl w sz v k xs:=by
 obtain⟨h1,⟨rfl,h0,rfl⟩ | ⟨b,cap,more,rfl,rfl,h3⟩⟩:=h
 ·have:xs=[]:=eq_nil_of_length_eq_zero (by rw[h1,h0];simp)
  subst this;subst h0;exact Sl.nil _ _ _
 ·exact Sl.mk h1 (At.of_blk (hw (b,blk E (xs++more)) (by simp))).left
theorem OwnSl.roomW{E:TypeId}{sz k:Nat}{v:Value}{xs:List Value}{Lv:OL} (h:OwnSl E sz v k xs Lv) (h0:0<sz):Room v:=by
 obtain⟨h1,⟨rfl,h0,rfl⟩ | ⟨b,cap,more,rfl,rfl,h3⟩⟩:=h
 ·exact Nat.zero_le _
 ·show k≤cap
  rw[length_append,h1] at h3
  exact Nat.le_of_mul_le_mul_right (by omega) h0
set_option maxHeartbeats 4000000 in
theorem digest6_spec{v:Value}{x:U8}{k:Nat} (w0:World) (hv:Sl w0 1 v x.length (u8s x)) (hsz:x.length<1099511627776) (hk1:1≤k) (hk:k≤32) :
  CP 110 #[.int .i64 (k:Nat),v] w0 (Ret0 (.agg (u8s (frontL x k)).toArray) w0):=by
 have hs:Step [] [] w0 w0:=Step.refl w0
 have hc:(cutD (shaL x) k).length=32:=by have h:=frontL_len (x:=x) hk;unfold frontL at h;exact h
 have e:frontL x k=cutD (shaL x) k:=by unfold frontL;rfl
 rw[e]
 have ob:∃d,cutD (shaL x) k=d:=⟨_,rfl⟩
 obtain⟨d,hd⟩:=ob
 have hcut:=fun w=>refCut_ok (d:=shaL x) (k:=k) (shaL_len x) hk1 hk w
 simp only[hd] at hcut
 rw[hd] at hc⊢
 have hdl:(u8s d).length=32:=by rw[u8s,length_map,hc]
 have ob:∃sh,shaL x=sh:=⟨_,rfl⟩
 obtain⟨sh,hsh⟩:=ob
 have hof:=fun {w} (h:Step [] [] w0 w)=>refOf_spec (x:=x) w (hv.step0 h) hsz
 simp only[hsh] at hof hcut
 refine calls (n:=15) Tryz.func110 rfl rfl rfl ?_
 refine sr<|WL.alloc ty44 rfl hs (fun b4 w hs=>?_)
 refine wZ<|sr<|wm<|wE rfl (run_call en156 rfl rfl) (hof hs.clear) ?_
 rintro e w ⟨rfl,hq⟩
 refine⟨_,rfl,?_⟩
 replace hs:=hs.callE hq
 refine wm<|wE rfl (run_call en155 rfl rfl) (hcut _) ?_
 rintro e w ⟨rfl,hq⟩
 refine⟨_,rfl,?_⟩
 replace hs:=hs.callE hq
 refine wm<|wx rfl rfl<|wx rfl rfl<|WL.alloc ty201 rfl hs (fun b5 w hs=>?_)
 refine WL.storeAll ty201 rfl rfl ((hdl)) ((Cells1.u8s _)) hs (by rfl) (fun w hs=>?_)
 refine wA<|wZ<|sr<|wR ty201 rfl hdl hs.a0<|WL.storeAll_1 ty44 rfl rfl ((hdl)) ((Cells1.u8s _)) hs (by rfl) (fun w hs=>?_)
 refine wZ<|CW.ret ?_
 refine fin_cell1 rfl rfl (run_loadVarN ty44 (by assumption) hs.a1) ?_
 exact⟨rfl,hs.clear⟩
theorem encS_spec{v:Value}{l:List Ent} (w0:World) (hl:Es w0 v l) (hcap:Room v):CP 57 #[v] w0 fun e w'=>∃v' y Lv er,e=.returned (.tuple #[v',.int .i64 er])∧(er=0→y=encB l∧checkE l=0)∧(er≠0→checkE l≠0)∧OwnSl 5 1 v' y.length (u8s y) Lv∧y.length≤1048576∧Step [] Lv w0 w':=by
 by_cases hc:checkE l=0
 ·refine(encodeR_ok w0 hl hcap hc).mono ?_
  rintro e w' ⟨v',Lv,he,hv,hs⟩
  exact⟨v',_,Lv,0,he,fun _=>⟨rfl,hc⟩,fun h=>absurd rfl h,hv,by have:=enc_len hl.2.1 hc;omega,hs⟩
 ·refine(encodeR_bad w0 hl hcap hc).mono ?_
  rintro e w' ⟨he,hs⟩
  exact⟨_,[],[],checkE l,he,fun h=>absurd h hc,fun _=>hc,OwnSl.nil _ _,by simp,hs⟩
theorem Its.step0{L:OL}{w w':World}{v:Value}{l:List It} (h:Its w v l) (hs:Step [] L w w'):Its w' v l:=⟨h.sl.step0 hs,fun x hx=>⟨(h.ok x hx).hb.step0 hs,(h.ok x hx).lp,(h.ok x hx).lb⟩,h.len⟩
abbrev BL:=List (Value×(List UInt8))
def cellsB (B:BL):List Value:=B.map (·.1)
theorem cellsB_snoc (B:BL) (t:Value×List UInt8):cellsB (B++[t])=cellsB B++[t.1]:=by simp[cellsB]
theorem cellsB_app (B C:BL):cellsB (B++C)=cellsB B++cellsB C:=by simp[cellsB]
def BOk (D:(List (Nat×Obj))) (B:BL):Prop:=∀t∈B,Held D t.1 t.2∧t.2.length≤1048576
theorem BOk.mono {D D':OL}{B:BL} (h:BOk D B) (hD:∀p∈D,p∈D'):BOk D' B:=fun t ht=>⟨(h t ht).1.mono hD,(h t ht).2⟩
theorem BOk.app{D:OL}{B C:BL} (h:BOk D B) (h2:BOk D C):BOk D (B++C):=fun t ht=>(mem_append.1 ht).elim (h t) (h2 t)
theorem BOk.c1{D:OL}{B:BL} (h:BOk D B):Cells1 (cellsB B):=fun v hv=>by
 have ob:=mem_map.1 hv
 obtain⟨t,ht,rfl⟩:=ob
 have ob:=(h t ht).1.form
 obtain⟨a,c,he⟩:=ob
 show t.1.oneCell'=true
 rw[he];rfl
theorem bld_ent (n:U8) (k:Int) (w:World):(Instr.build 115 #[(0,str n),(1,.int .i64 k)]).run Tryz.prog w=.ok (.agg (Ent.cells ⟨n,k,List.replicate 32 0⟩).toArray) w:=by kernel_rfl
theorem splice_ent{n:U8}{k:Int}{z d:U8} (hz:z.length=32) (hd:d.length=32):splice (Ent.cells ⟨n,k,z⟩) (0+2) (u8s d)=Ent.cells ⟨n,k,d⟩:=by
 have h1:(u8s d).length=32:=by rw[u8s,length_map,hd]
 have h2:(u8s z).length=32:=by rw[u8s,length_map,hz]
 have h3:(u8s z).drop 32=[]:=drop_of_length_le (by omega)
 rw[splice,h1]
 show [str n,Value.int .i64 k]++u8s d++(u8s z).drop 32=_
 rw[h3,append_nil];rfl
section
variable{S:List Nat}{A B C D E F G X Y:OL}{a b c:Nat×Obj}{w w':World}
theorem Step.q1 (h:Step S (a::(A++X)) w w'):Step S (a::X) w w':=Step.dropL (L1:=A) (h.perm (by classical exact perm_iff_count.2 fun x=>by simp only[count_append,count_cons];omega))
theorem Step.q2 (h:Step S (a::(A++(b::(B++(C++D))))) w w'):Step S (C++(a::(A++(b::(B++D))))) w w':=h.perm (by classical exact perm_iff_count.2 fun x=>by simp only[count_append,count_cons];omega)
theorem Step.q3 (h:Step S (C++(a::(A++(b::(B++D))))) w w'):Step S (b::(B++(C++(A++D)))) w w':=Step.tail (p:=a) (h.perm (by classical exact perm_iff_count.2 fun x=>by simp only[count_append,count_cons];omega))
theorem Step.q4 (h:Step S ((A++(B++C))++(a::X)) w w'):Step S (a::(A++(B++(C++X)))) w w':=h.perm (by classical exact perm_iff_count.2 fun x=>by simp only[count_append,count_cons];omega)
theorem Step.q5 (h:Step S (A++(a::X)) w w'):Step S (a::(A++X)) w w':=h.perm perm_middle
theorem Step.q6 (h:Step S (a::(A++(B++(C++(D++(E++(F++G))))))) w w'):Step S (F++(a::(A++(B++(C++(D++(E++G))))))) w w':=h.perm (by classical exact perm_iff_count.2 fun x=>by simp only[count_append,count_cons];omega)
theorem Step.q7 (h:Step S (F++(b::(a::(A++(B++(C++(D++(E++G)))))))) w w'):Step S (a::(E++(F++(A++(D++G))))) w w':=Step.dropL (L1:=b::(B++C)) (h.perm (by classical exact perm_iff_count.2 fun x=>by simp only[count_append,count_cons];omega))
end
def EntsPost (l:List It) (i:Nat) (w0:World) (e:Ending) (w':World):Prop:=
 ∃vE LE El vB LB B D j,e=.returned (.tuple #[vE,vB,.int .i64 (j:Nat)])∧OwnSl 115 34 vE El.length (rows El) LE∧Oks El∧El.length≤j - i∧OwnSl 76 1 vB B.length (cellsB B) LB∧BOk D B∧B.length≤j - i∧i≤j∧j≤l.length∧Step [] (LE++(LB++D)) w0 w'
set_option maxHeartbeats 16000000 in
theorem entries_spec{k:Nat} (hk1:1≤k) (hk:k≤32){av:Option Addr}{cv:Nat}{l:List It} (hlen:l.length<65536) (hroom:l.length≤cv) (hgood:∀x∈l,GoodIt x):∀(n i:Nat),l.length - i≤n→i≤l.length→∀(p:U8),p.length≤4096→∀(w0:World),Its w0 (.slice av l.length cv) l→
  CP 109 #[.int .i64 (k:Nat),.slice av l.length cv,str p,.int .i64 (i:Nat)] w0 (EntsPost l i w0):=by
 intro n
 induction n with
 | zero=>
  intro i hni hil p hpl w0 hl
  obtain rfl:i=l.length:=by omega
  have hs:Step [] [] w0 w0:=Step.refl w0
  refine calls (n:=114) Tryz.func109 rfl rfl rfl ?_
  refine sr<|wA<|wA<|wA<|wZ<|sr<|wA<|wZ<|sr<|wA<|wZ ?_
  refine cq<|cB<|CW.loop (fun z f w'=>z=0∧Step [] [] w0 w'∧Holds f [(1,.slice av l.length cv),(2,str p),(3,.int .i64 (l.length:Nat)),(11,.slice none 0 0),(12,.slice none 0 0)]) (m:=0) ?_ ?_
  ·exact⟨rfl,hs,rfl,rfl,rfl,rfl,rfl,trivial⟩
  clear hs
  rintro z f w ⟨rfl,hs,hf⟩
  have ob:=hf.chain
  obtain⟨g,rfl⟩:=ob
  refine cq<|sr<|wm<|wm<|wL u65 rfl<|lF<|wm<|wz<|wz<|wz<|wz<|wz<|wz<|wz<|wz<|wz<|wz<|wz<|pF<|wZ ?_
  refine CW.cond rfl (fun h=>?_) (fun h=>?_)
  ·cases h
  refine CW.exit<|sr<|wm<|wm<|wm<|wA<|wA<|wA<|wZ<|CW.ret ?_
  refine fin_ret3 rfl ?_
  exact⟨_,[],[],_,[],[],[],l.length,rfl,OwnSl.nil _ _,Oks.nil,by simp,OwnSl.nil _ _,(fun t ht=>by cases ht),by simp,Nat.le_refl _,Nat.le_refl _,hs⟩
 | succ n ih=>
  intro i0 hni hil p hpl w0 hl
  have hs:Step [] [] w0 w0:=Step.refl w0
  refine calls (n:=114) Tryz.func109 rfl rfl rfl ?_
  refine sr<|wA<|wA<|wA<|wZ<|sr<|wA<|wZ<|sr<|wA<|wZ ?_
  refine cq<|cB<|CW.loop (fun z f w'=>∃i vE LE El vB LB B D,i0≤i∧i≤l.length∧z=l.length - i∧OwnSl 115 34 vE El.length (rows El) LE∧Oks El∧El.length≤i - i0∧OwnSl 76 1 vB B.length (cellsB B) LB∧BOk D B∧B.length≤i - i0∧Step [] (LE++(LB++D)) w0 w'∧Holds f [(0,.int .i64 (k:Nat)),(1,.slice av l.length cv),(2,str p),(3,.int .i64 (i:Nat)),(11,vE),(12,vB)]) (m:=l.length - i0) ?_ ?_
  ·exact⟨i0,_,[],[],_,[],[],[],Nat.le_refl _,hil,rfl,OwnSl.nil _ _,Oks.nil,by simp,OwnSl.nil _ _,(fun t ht=>by cases ht),by simp,hs,rfl,rfl,rfl,rfl,rfl,rfl,trivial⟩
  clear hs
  rintro z f w ⟨i,vE,LE,El,vB,LB,B,D,hi0,hil2,rfl,hE,hEo,hEl,hB,hBo,hBl,hs,hf⟩
  by_cases hlt:i<l.length
  ·have ob:∃x,l[i]?=some x:=⟨_,getElem?_eq_getElem hlt⟩
   obtain⟨x,hx⟩:=ob
   have hxm:=mem_of_getElem? hx
   have hxo:=hl.ok x hxm
   have ob:=hgood x hxm
   obtain⟨hcl,hp0,hxl⟩:=ob
   have hxpl:=clean_len hcl
   have ob:=hl.at hx
   obtain⟨bl,ol,cl,hc0,hat0⟩:=ob
   cases hc0
   have ob:=hxo.hb.form
   obtain⟨ax,cx,hvx⟩:=ob
   have hrow:∀{X:OL}{w:World},Step [] X w0 w→At w bl (ol+i*3) (itC x.p x.d (.slice ax x.x.length cx)):=fun h=>by
    have h1:=hat0.step h.clear (by simp)
    rw[hvx] at h1;exact h1
   have ob:=hf.chain
   obtain⟨g,rfl⟩:=ob
   have hun:=fun w=>refUnder_spec (s:=p) (t:=x.p) w (by omega) (by omega)
   have ob:∃b,underL (partsL p) (partsL x.p)=b:=⟨_,rfl⟩
   obtain⟨ub,hub⟩:=ob
   simp only[hub] at hun
   have hpn:partsL x.p≠[]:=fun h=>hp0 (partsL_nil h)
   have hpt:=fun w=>refParts_spec (s:=x.p) w (by omega)
   have hpnm:=(clean_named hcl).1
   have hpnl:=(clean_named hcl).2
   have ob:∃ps,partsL x.p=ps:=⟨_,rfl⟩
   obtain⟨ps,hps⟩:=ob
   simp only[hps] at hpt hpn hpnm hpnl
   have hpl0:0<ps.length:=length_pos_iff.2 hpn
   have ob:∃nm,ps[ps.length - 1]?=some nm:=⟨_,getElem?_eq_getElem (by omega)⟩
   obtain⟨nm,hnm⟩:=ob
   have hnml:=isName_le (hpnm nm (mem_of_getElem? hnm))
   refine CW.seqM (fun f w=>Step [] (LE++(LB++D)) w0 w∧Holds f [(0,.int .i64 (k:Nat)),(1,.slice (some ⟨bl,ol,none⟩) l.length cv),(2,str p),(3,.int .i64 (i:Nat)),(11,vE),(12,vB)]) ?_ ?_
   ·by_cases hpe:p=[]
    ·refine sr<|wm<|wm<|wL u65 rfl<|lT<|wm<|wy<|wm<|wy<|wV (run_bT (run_strEq rfl rfl) (by exact hpe))<|wy<|wm<|wz<|wz<|wz<|wz<|wz<|wz<|wz ?_
     refine wy ?_;(first | refine WL.val rfl (run_pickT rfl) ?_ | refine WL.val rfl (run_pickF rfl) ?_)
     refine pT<|wZ<|CW.cond rfl (fun h=>?_) (fun h=>?_)
     ·refine ck ?_
      exact⟨rfl,hs,rfl,rfl,rfl,rfl,rfl,rfl,trivial⟩
     ·cases h
    ·cases ub with
     | true=>
      refine sr<|wm<|wm<|wL u65 rfl<|lT<|wm<|wy<|wm<|wy<|wV (run_bF (run_strEq rfl rfl) (by exact hpe))<|wy<|wm<|wy<|wm ?_
      refine wy<|wm<|wy<|wm ?_
      refine wy ?_;(first | refine WL.val rfl (run_ixSlN u65 ty155 rfl rfl (by omega)) ?_ | refine WL.val rfl (run_ixSl u65 ty155 rfl rfl (by omega)) ?_)
      refine wy<|wF 0 u155 rfl ty9 rfl<|wy<|wl ty9 rfl ((hrow hs).cell (j:=0) rfl)<|wy<|wE rfl (run_call en153 rfl rfl) (hun _) ?_
      rintro e w ⟨rfl,hq⟩
      refine⟨_,rfl,?_⟩
      replace hs:=hs.callE hq
      refine wy ?_;(first | refine WL.val rfl (run_pickT rfl) ?_ | refine WL.val rfl (run_pickF rfl) ?_)
      refine pT<|wZ<|CW.cond rfl (fun h=>?_) (fun h=>?_)
      ·refine ck ?_
       exact⟨rfl,hs,rfl,rfl,rfl,rfl,rfl,rfl,trivial⟩
      ·cases h
     | false=>
      refine sr<|wm<|wm<|wL u65 rfl<|lT<|wm<|wy<|wm<|wy<|wV (run_bF (run_strEq rfl rfl) (by exact hpe))<|wy<|wm<|wy<|wm ?_
      refine wy<|wm<|wy<|wm ?_
      refine wy ?_;(first | refine WL.val rfl (run_ixSlN u65 ty155 rfl rfl (by omega)) ?_ | refine WL.val rfl (run_ixSl u65 ty155 rfl rfl (by omega)) ?_)
      refine wy<|wF 0 u155 rfl ty9 rfl<|wy<|wl ty9 rfl ((hrow hs).cell (j:=0) rfl)<|wy<|wE rfl (run_call en153 rfl rfl) (hun _) ?_
      rintro e w ⟨rfl,hq⟩
      refine⟨_,rfl,?_⟩
      replace hs:=hs.callE hq
      refine wy ?_;(first | refine WL.val rfl (run_pickT rfl) ?_ | refine WL.val rfl (run_pickF rfl) ?_)
      refine pT<|wZ<|CW.cond rfl (fun h=>?_) (fun h=>?_)
      ·cases h
      refine CW.exit<|sr<|wm<|wm<|wm<|wA<|wA<|wA<|wZ<|CW.ret ?_
      refine fin_ret3 rfl ?_
      exact⟨vE,LE,El,vB,LB,B,D,i,rfl,hE,hEo,hEl,hB,hBo,hBl,hi0,hil2,hs⟩
   clear hs hf
   rintro f w ⟨hs,hf⟩
   have ob:=hf.chain
   obtain⟨g,rfl⟩:=ob
   refine cB<|sr<|wm<|wm<|wI u65 ty155 rfl rfl<|wF 0 u155 rfl ty9 rfl<|wl ty9 rfl ((hrow hs).cell (j:=0) rfl)<|wE rfl (run_call en154 rfl rfl) (hpt _) ?_
   rintro e w ⟨u,Lu,rfl,hu,hq⟩
   refine⟨_,rfl,?_⟩
   replace hs:=Step.call0 hs hq
   refine wA<|wZ ?_
   have ob:=At.ownSl hu (w:=w) (fun q hq=>hs.has q (mem_append_left _ hq)) hpl0
   obtain⟨bu,cu,hue,hua⟩:=ob
   cases hue
   have hucell:∀{X:OL}{w':World},w'.cell? ⟨bu,0+(ps.length - 1)*1,none⟩=w.cell? ⟨bu,0+(ps.length - 1)*1,none⟩→w'.cell? ⟨bu,0+(ps.length - 1)*1,none⟩=some (str nm):=fun h=>by
    rw[h]
    refine hua.cell (j:=(ps.length - 1)*1) ?_
    rw[Nat.mul_one,strs,getElem?_map,hnm];rfl
   refine sr<|wm<|wm<|wL u256 rfl<|wS ((ps.length - 1:Nat):Int)<|wI u256 ty9 rfl rfl<|wl ty9 rfl (hucell (X:=[]) rfl)<|wV (run_build rfl (bld_ent _ _ _))<|WL.alloc ty115 rfl hs (fun b14 w hs=>?_)
   refine WL.storeAll ty115 rfl rfl ((by simp[Ent.cells,u8s])) ((Ent.cells1 _)) hs (by rfl) (fun w hs=>?_)
   refine wZ ?_
   replace hs:Step [] ((b14,blk 115 (Ent.cells ⟨nm,1,List.replicate 32 0⟩))::(LE++(LB++D))) w0 w:=Step.q1 hs
   refine CW.seqM (fun f w=>∃kd dg j vB2 LB2 B2 D2,dg.length=32∧(kd=1∨kd=2)∧i<j∧j≤l.length∧OwnSl 76 1 vB2 B2.length (cellsB B2) LB2∧BOk D2 B2∧B2.length≤j - i0∧Step [] ((b14,blk 115 (Ent.cells ⟨nm,kd,dg⟩))::(LE++(LB2++D2))) w0 w∧Holds f [(0,.int .i64 (k:Nat)),(1,.slice (some ⟨bl,ol,none⟩) l.length cv),(2,str p),(3,.int .i64 (j:Nat)),(11,vE),(12,vB2),(14,pt b14)]) ?_ ?_
   ·have ob:∃b,x.d=b:=⟨_,rfl⟩
    obtain⟨xd,hxd⟩:=ob
    rw[hxd] at hrow
    cases xd with
    | true=>
     refine sr<|wm<|wm<|wI u65 ty155 rfl rfl<|wF 1 u155 rfl ty4 rfl<|wl ty4 rfl ((hrow hs).cell (j:=1) rfl)<|wZ<|CW.cond rfl (fun h=>?_) (fun h=>?_)
     ·refine sr<|wF 1 u115 rfl ty3 rfl<|ws1 ty3 rfl rfl (rfl) hs (fun w hs=>?_)
      refine wZ ?_
      replace hs:Step [] ((b14,blk 115 (Ent.cells ⟨nm,2,List.replicate 32 0⟩))::(LE++(LB++D))) w0 w:=hs
      refine sr<|wm<|wm<|wm<|wm<|wI u65 ty155 rfl rfl<|wF 0 u155 rfl ty9 rfl<|wl ty9 rfl ((hrow hs).cell (j:=0) rfl)<|wm<|wP ((i+1:Nat):Int)<|wE rfl (run_call en109 rfl rfl) (ih (i+1) (by omega) (by omega) x.p (by omega) w (hl.step0 hs.clear)) ?_
      rintro e w ⟨v2,LE2,E2,v3,LB2,B2,D2,j2,rfl,hE2,hE2o,hE2l,hB2,hB2o,hB2l,hj1,hj2,hq⟩
      refine⟨_,rfl,?_⟩
      replace hs:=Step.q4 (Step.call0 hs hq)
      refine wm<|wx rfl rfl<|wx rfl rfl<|wx rfl rfl<|wA<|wA<|wA<|wZ ?_
      have hes:∀{w:World},Step [] ((b14,blk 115 (Ent.cells ⟨nm,2,List.replicate 32 0⟩))::(LE2++(LB2++(D2++(LE++(LB++D)))))) w0 w→Es w v2 E2:=fun h=>⟨hE2.slW fun q hq=>h.has q (by simp[hq]),hE2o,by omega⟩
      refine sr<|wm<|wE rfl (run_call en57 rfl rfl) (encS_spec _ (hes hs) (hE2.roomW (by omega))) ?_
      rintro e w ⟨v18,y,L18,er,rfl,_,_,hv18,hyl,hq2⟩
      refine⟨_,rfl,?_⟩
      replace hs:=Step.q5 (Step.call0 hs hq2)
      refine wm<|wx rfl rfl<|wx rfl rfl<|wA<|wA<|wZ<|sr<|wm<|wm<|wE rfl (run_call en110 rfl rfl) (digest6_spec (x:=y) w (hv18.slW fun q hq=>hs.has q (by simp[hq])) (by omega) hk1 hk) ?_
      rintro e w ⟨rfl,hq3⟩
      refine⟨_,rfl,?_⟩
      replace hs:=hs.callE hq3
      refine wF 2 u115 rfl ty44 rfl<|WL.storeN ty44 rfl rfl ((by rw[u8s,length_map,frontL_len hk])) (Cells1.u8s _) (hs) (by first | (simp;done) | omega | (simp only[length_append,length_replicate,length_cons,length_nil,length_set];omega) | (simp[Ent.cells,u8s];done) | exact Nat.le_of_ble_eq_true rfl) (fun w hs=>?_)
      refine wZ ?_
      have hfr:=frontL_len (x:=y) hk
      have ob:∃dg,frontL y k=dg:=⟨_,rfl⟩
      obtain⟨dg,hdg⟩:=ob
      rw[hdg] at hfr hs
      replace hs:Step [] ((b14,blk 115 (Ent.cells ⟨nm,2,dg⟩))::(L18++(LE2++(LB2++(D2++(LE++(LB++D))))))) w0 w:=by rw[←splice_ent (z:=List.replicate 32 0) (by simp) hfr];exact hs
      have hs2:=Step.q6 hs
      have hBs:Sl w 1 v3 B2.length (cellsB B2):=hB2.slW fun q hq=>hs.has q (by simp[hq])
      have hHy:Held (L18++(D2++D)) v18 y:=⟨L18,hv18,fun q hq=>mem_append_left _ hq⟩
      have ob:=hv18.form
      obtain⟨ya,yc,rfl⟩:=ob
      refine sr<|wm<|wm<|WL.append u24 u24 ty76 rfl (by decide) rfl rfl (hB) (hs2) (hBs) (hB2o.c1) (by omega) rfl (fun v81 Lv81 w hv81 hs=>?_)
      refine wA<|wZ ?_
      replace hs:=hs
      refine sr<|wm<|wm<|WL.buildSlice (cs:=[.slice ya y.length yc]) (vs:=[(0,.slice ya y.length yc)]) u24 ty76 rfl (by decide) rfl (filled_s _ _ rfl) rfl hs (fun b84 w hs=>?_)
      have hsl84:Sl w 1 (.slice (some ⟨b84,0,none⟩) 1 1) 1 [Value.slice ya y.length yc]:=.own1 hs rfl
      replace hs:=Step.in1 (Z:=Lv81) hs
      refine WL.append u24 u24 ty76 rfl (by decide) rfl rfl (hv81) (hs) (hsl84) (Cells1.of_all rfl) (by omega) rfl (fun v85 Lv85 w hv85 hs=>?_)
      refine wA<|wZ ?_
      replace hs:=Step.q7 hs
      have hB3:OwnSl 76 1 v85 (B++B2++[(Value.slice ya y.length yc,y)]).length (cellsB (B++B2++[(Value.slice ya y.length yc,y)])) Lv85:=by
       rw[length_append,length_append,cellsB_snoc,cellsB_app];exact hv85
      have hB3o:BOk (L18++(D2++D)) (B++B2++[(Value.slice ya y.length yc,y)]):=((hBo.mono fun q hq=>by simp[hq]).app (hB2o.mono fun q hq=>by simp[hq])).app fun t ht=>by
       obtain rfl:=mem_singleton.1 ht
       exact⟨hHy,hyl⟩
      refine cr<|wm<|wA<|wZ ?_
      exact⟨rfl,2,dg,j2,v85,Lv85,_,_,hfr,.inr rfl,by omega,hj2,hB3,hB3o,by simp only[length_append,length_singleton];omega,hs,rfl,rfl,rfl,rfl,rfl,rfl,rfl,trivial⟩
     ·cases h
    | false=>
     refine sr<|wm<|wm<|wI u65 ty155 rfl rfl<|wF 1 u155 rfl ty4 rfl<|wl ty4 rfl ((hrow hs).cell (j:=1) rfl)<|wZ<|CW.cond rfl (fun h=>?_) (fun h=>?_)
     ·cases h
     refine sr<|wm<|wm<|wm<|wI u65 ty155 rfl rfl<|wF 2 u155 rfl ty76 rfl<|wl ty76 rfl ((hrow hs).cell (j:=2) rfl)<|wE rfl (run_call en110 rfl rfl) (digest6_spec (x:=x.x) w (by rw[←hvx];exact hxo.hb.step0 hs.clear) (by omega) hk1 hk) ?_
     rintro e w ⟨rfl,hq3⟩
     refine⟨_,rfl,?_⟩
     replace hs:=hs.callE hq3
     refine wF 2 u115 rfl ty44 rfl<|WL.storeN ty44 rfl rfl ((by rw[u8s,length_map,frontL_len hk])) (Cells1.u8s _) (hs) (by first | (simp;done) | omega | (simp only[length_append,length_replicate,length_cons,length_nil,length_set];omega) | (simp[Ent.cells,u8s];done) | exact Nat.le_of_ble_eq_true rfl) (fun w hs=>?_)
     refine wZ ?_
     have hfr:=frontL_len (x:=x.x) hk
     have ob:∃dg,frontL x.x k=dg:=⟨_,rfl⟩
     obtain⟨dg,hdg⟩:=ob
     rw[hdg] at hfr hs
     replace hs:Step [] ((b14,blk 115 (Ent.cells ⟨nm,1,dg⟩))::(LE++(LB++D))) w0 w:=by rw[←splice_ent (z:=List.replicate 32 0) (by simp) hfr];exact hs
     refine sr<|wm<|WL.buildSlice (cs:=[]) u76 ty5 rfl (by decide) rfl (by rfl) rfl hs (fun b96 w hs=>?_)
     refine wm<|wm<|wI u65 ty155 rfl rfl<|wF 2 u155 rfl ty76 rfl<|wl ty76 rfl ((hrow hs).cell (j:=2) rfl)<|WL.append u76 u76 ty5 rfl (by decide) rfl rfl (OwnSl.mk (b:=b96) (xs:=[]) (k:=0) rfl) (hs) ((by rw[←hvx];exact hxo.hb.step0 hs.clear)) (Cells1.u8s _) (by omega) rfl (fun v102 Lv102 w hv102 hs=>?_)
     have hfv:=hv102.form
     obtain⟨ya,yc,hye⟩:=hfv
     subst hye
     refine WL.buildSlice (cs:=[.slice ya (0+x.x.length) yc]) (vs:=[(0,.slice ya (0+x.x.length) yc)]) u24 ty76 rfl (by decide) rfl (filled_s _ _ rfl) rfl hs (fun b103 w hs=>?_)
     have hsl103:Sl w 1 (.slice (some ⟨b103,0,none⟩) 1 1) 1 [Value.slice ya (0+x.x.length) yc]:=.own1 hs rfl
     replace hs:=Step.q2 hs
     refine WL.append u24 u24 ty76 rfl (by decide) rfl rfl (hB) (hs) (hsl103) (Cells1.of_all rfl) (by omega) rfl (fun v104 Lv104 w hv104 hs=>?_)
     refine wA<|wZ ?_
     replace hs:=Step.q3 hs
     have hHy:Held (Lv102++D) (.slice ya (0+x.x.length) yc) x.x:=⟨Lv102,by rw[Nat.zero_add] at hv102⊢;rw[nil_append] at hv102;exact hv102,fun q hq=>mem_append_left _ hq⟩
     have hB3:OwnSl 76 1 v104 (B++[(Value.slice ya (0+x.x.length) yc,x.x)]).length (cellsB (B++[(Value.slice ya (0+x.x.length) yc,x.x)])) Lv104:=by
      rw[length_append,cellsB_snoc];exact hv104
     have hB3o:BOk (Lv102++D) (B++[(Value.slice ya (0+x.x.length) yc,x.x)]):=(hBo.mono mem_right).app fun t ht=>by
      obtain rfl:=mem_singleton.1 ht
      exact⟨hHy,hxl⟩
     refine cr<|wm<|wP ((i+1:Nat):Int)<|wA<|wZ ?_
     exact⟨rfl,1,dg,i+1,v104,Lv104,_,_,hfr,.inl rfl,by omega,by omega,hB3,hB3o,by simp only[length_append,length_singleton];omega,hs,rfl,rfl,rfl,rfl,rfl,rfl,rfl,trivial⟩
   clear hs hf
   rintro f w ⟨kd,dg,j,vB2,LB2,B2,D2,hdg,hkd,hj1,hj2,hB2,hB2o,hB2l,hs,hf⟩
   have ob:=hf.chain
   obtain⟨g,rfl⟩:=ob
   have heo:Ent.ok (⟨nm,kd,dg⟩:Ent):=⟨hdg,by rcases hkd with h | h <;> (show _≤kd;omega),by rcases hkd with h | h <;> (show kd≤_;omega),by show nm.length≤_;omega⟩
   have hec:=Ent.cells_len heo
   refine cr<|wm<|wR ty115 rfl hec hs.a0<|WL.buildSlice (cs:=Ent.cells ⟨nm,kd,dg⟩) u116 ty115 rfl (by decide) rfl (filled1 hec rfl) rfl hs (fun b109 w hs=>?_)
   have hsl109:Sl w 34 (.slice (some ⟨b109,0,none⟩) 1 1) 1 (Ent.cells ⟨nm,kd,dg⟩):=.own1 hs (by rw[hec])
   replace hs:=Step.in2 hs
   refine WL.append u116 u116 ty115 rfl (by decide) rfl rfl (hE) (hs) (hsl109) (Ent.cells1 _) (by omega) rfl (fun v110 Lv110 w hv110 hs=>?_)
   refine wA<|wZ ?_
   replace hs:=Step.out2 hs
   have hE2:OwnSl 115 34 v110 (El++[(⟨nm,kd,dg⟩:Ent)]).length (rows (El++[(⟨nm,kd,dg⟩:Ent)])) Lv110:=by
    rw[length_append,rows_append,rows_one];exact hv110
   refine(show _∧_ from⟨rfl,_,?_,j,v110,Lv110,_,vB2,LB2,B2,D2,by omega,hj2,rfl,hE2,hEo.append (Oks.one heo),?_,hB2,hB2o,hB2l,hs,rfl,rfl,rfl,rfl,rfl,rfl,trivial⟩)
   ·omega
   ·rw[length_append,length_singleton];omega
  ·have ob:=hf.chain
   obtain⟨g,rfl⟩:=ob
   refine cq<|sr<|wm<|wm<|wL u65 rfl<|lF<|wm<|wz<|wz<|wz<|wz<|wz<|wz<|wz<|wz<|wz<|wz<|wz<|pF<|wZ ?_
   refine CW.cond rfl (fun h=>?_) (fun h=>?_)
   ·cases h
   refine CW.exit<|sr<|wm<|wm<|wm<|wA<|wA<|wA<|wZ<|CW.ret ?_
   refine fin_ret3 rfl ?_
   exact⟨vE,LE,El,vB,LB,B,D,i,rfl,hE,hEo,hEl,hB,hBo,hBl,hi0,hil2,hs⟩
end Go.Gx
