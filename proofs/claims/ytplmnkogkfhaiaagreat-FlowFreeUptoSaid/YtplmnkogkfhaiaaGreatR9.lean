/- behind: walked, whole. What a walk that went well has met: it holds the parts of its directories. No program in sight. The document's Parts: walked. The document's going behind the parts: to. A directory's parts are few. No program in sight. Copying, plain: what is laid in another Store, blob by blo -/
import Derived.Test.YtplmnkogkfhaiaaGreatR8
import Derived.Test.YtplmnkogkfhaiaaGreatR1
set_option linter.unusedVariables false
set_option linter.unusedSimpArgs false
set_option maxRecDepth 100000
namespace Go.Gx
open Go.Proofs List
attribute [local irreducible] shaL cutD frontL
theorem OwnSl.slH{E sz:Nat}{v:Value}{k:Nat}{xs:List Value}{Lv:OL}{w:World} (h:OwnSl E sz v k xs Lv) (hw:∀p∈Lv,w.heap[p.1]?=some p.2):Sl w sz v k xs:=by
 obtain⟨hl,⟨rfl,rfl,rfl⟩ | ⟨b,cap,more,rfl,rfl,hc⟩⟩:=h
 ·exact⟨hl,.inl ⟨none,0,rfl,rfl⟩⟩
 ·exact .mk hl (At.of_blk (hw (b,blk E (xs++more)) (by simp))).left
section
variable{S:List Nat}{a b c q:Nat×Obj}{T Lo X:OL}{w w':World}
theorem Step.bIn (h:Step S (a::b::(T++(q::Lo))) w w'):Step S (Lo++(a::b::q::T)) w w':=h.perm (by classical exact perm_iff_count.2 fun x=>by simp only[count_append,count_cons];omega)
theorem Step.bOut (h:Step S (Lo++(a::b::q::T)) w w'):Step S (T++(q::Lo)) w w':=Step.tail (p:=b) (Step.tail (p:=a) (h.perm (by classical exact perm_iff_count.2 fun x=>by simp only[count_append,count_cons];omega)))
theorem Step.bT (h:Step S (a::b::(T++X)) w w'):Step S (T++(a::b::X)) w w':=h.perm (perm_append_comm_assoc [a,b] T X)
theorem Step.bU (h:Step S (T++(a::b::X)) w w'):Step S (a::b::(T++X)) w w':=h.perm (perm_append_comm_assoc T [a,b] X)
theorem Step.bQ (h:Step S (a::b::c::(T++(q::Lo))) w w'):Step S (q::a::b::c::(T++Lo)) w w':=h.perm (by classical exact perm_iff_count.2 fun x=>by simp only[count_append,count_cons];omega)
theorem Step.bR (h:Step S (q::a::b::c::(T++Lo)) w w'):Step S (T++(q::a::b::c::Lo)) w w':=h.perm (by classical exact perm_iff_count.2 fun x=>by simp only[count_append,count_cons];omega)
theorem Step.bS (h:Step S (T++(q::a::b::c::Lo)) w w'):Step S (T++(q::Lo)) w w':=Step.tail (p:=c) (Step.tail (p:=b) (Step.tail (p:=a) (h.perm (by classical exact perm_iff_count.2 fun x=>by simp only[count_append,count_cons];omega))))
theorem Step.bW (h:Step S (a::b::c::(T++X)) w w'):Step S (T++X) w w':=h.tail.tail.tail
end
theorem Fin.nil_inv{P:U8→List (List UInt8)}{gf of g o:List (List UInt8)}{K:Nat} (h:Fin P gf of [] g o K):o=of:=by cases h;rfl
theorem MapP.parts{s:AS}{D:OL}{m:List (U8×Bool)}{M:DM}{w0:World} (h:MapP s D m M) (hw:∀p∈D,w0.heap[p.1]?=some p.2) (d:U8) :
  ∃v,((findD d M 0).map (·.2)).getD (.slice none 0 0)=v∧Sl w0 32 v (partsM s m d).length (digsL (partsM s m d)):=by
 have h1:=h.val d
 cases hv:valD d M with
 | none=>
  rw[hv] at h1
  refine⟨.slice none 0 0,?_,?_⟩
  ·show(valD d M).getD _=_
   rw[hv];rfl
  ·rw[partsM,if_neg h1];exact Sl.nil _ _ _
 | some u=>
  rw[hv] at h1
  obtain⟨h2,Lv,h3,h4⟩:=h1
  refine⟨u,?_,?_⟩
  ·show(valD d M).getD _=_
   rw[hv];rfl
  ·rw[partsM,if_pos h2];exact h3.slH fun p hp=>hw p (h4 p hp)
section
variable{bm:Nat}{s:AS}{m:List (U8×Bool)}{D W:OL}{w0:World}{r:U8}{gf of:List (List UInt8)}{k:Nat}
set_option maxHeartbeats 4000000 in
theorem behind_spec (hM:MetRep bm s m D W) (hw:Lives (W++D) w0) (h32:∀d∈ordM m,d.length=32) (hPU:∀d∈ordM m,∀x∈partsM s m d,x∈ordM m) (hpl:∀d,(partsM s m d).length<1000000000) (hml:m.length≤65536) (hr:(ordM m)[0]?=some r) (hG:Goes (partsM s m) [r] [] [] gf of k) :
  CP 70 #[pt bm] w0 fun e w'=>∃v Lv,e=.returned v∧OwnSl 44 32 v of.length (digsL of) Lv∧Step [] Lv w0 w':=by
 obtain⟨vO,LO,q1,M1,c1,q2,M2,c2,rfl,hO,hB,hPm⟩:=hM
 have hol:=ordM_len m
 have hrU:=mem_of_getElem? hr
 have hr32:=h32 r hrU
 have hrl:(u8s r).length=32:=by rw[u8s,length_map,hr32]
 have h0:0<(ordM m).length:=(List.getElem?_eq_some_iff.1 hr).1
 have ob:=hO.some1 h0
 obtain⟨bo,co,more,ho1,ho2,ho3⟩:=ob
 subst ho1
 subst ho2
 have hs:Step [] [] w0 w0:=Step.refl w0
 have hatM:∀{w},Step [] [] w0 w→At w bm 0 [.slice (some ⟨bo,0,none⟩) (ordM m).length co,.map (some q1),.map (some q2)]:=fun h=>At.of_blk (h.old (hw.has (bm,blk 132 [.slice (some ⟨bo,0,none⟩) (ordM m).length co,.map (some q1),.map (some q2)]) (by simp)) (by simp))
 have hroot:∀{w},Step [] [] w0 w→At w bo (0+0*32) (u8s r):=fun h=>digsL_at h32 (At.of_blk (h.old (hw.has (bo,blk 44 (digsL (ordM m)++more)) (by simp)) (by simp))).left hr
 have hq2:∀{w},Step [] [] w0 w→w.heap[q2]?=some (mapObj M2 c2):=fun h=>h.old (hw.has (q2,mapObj M2 c2) (by simp)) (by simp)
 have hparts:=hPm.parts fun p hp=>hw.has p (by simp[hp])
 have ob:=Fin.root hG
 obtain⟨K0,hF0⟩:=ob
 refine calls (n:=79) Tryz.func70 rfl rfl rfl ?_
 refine sr<|wA<|wZ<|sr<|wA<|wZ<|sr<|WL.alloc ty217 rfl hs (fun b4 w hs=>?_)
 refine wZ ?_
 have hS0:Stk 217 220 33 b4 [] [(b4,blk 217 [.slice none 0 0])]:=⟨(fun c hc=>by cases hc),_,[],rfl,OwnSl.nil _ _⟩
 refine sr<|WL.makeMapD rfl hs (fun b12 w hs=>?_)
 refine wm<|wn rfl<|wF 0 u132 rfl ty35 rfl<|wl ty35 rfl ((hatM hs.clear).cell (j:=0) rfl)<|wV (run_ixSlN (i:=0) u35 ty44 rfl rfl (by omega))<|wR ty44 rfl hrl (hroot hs.clear)<|wV (run_build rfl (bld_none _))<|WL.mapIns u141 rfl rfl rfl SetD.nil.keys hr32 hs (fun w hs=>?_)
 refine wm<|wA<|wZ<|sr<|wm<|wn rfl<|wF 0 u132 rfl ty35 rfl<|wl ty35 rfl ((hatM hs.clear).cell (j:=0) rfl)<|wV (run_ixSlN (i:=0) u35 ty44 rfl rfl (by omega))<|wR ty44 rfl hrl (hroot hs.clear)<|wV (run_build rfl (bld_p0 hr32 _))<|wE rfl (run_call en118 rfl rfl) (pushplace_spec (c:=plC8 (r,0)) hS0 (plC8_len hr32) (plC8_c1 _) (by simp) (Lives.of (L1:=[_]) hs.swap)) ?_
 rintro e w ⟨T1,rfl,hS1,hq⟩
 refine⟨_,rfl,?_⟩
 replace hs:=Step.call (L1:=[_]) hs.swap hq
 refine wZ ?_
 have hSet0:SetD (putM r (.agg #[]) 0 []) [r]:=SetD.nil.put hr32 0
 refine cB<|CW.loop (fun z f w'=>∃S g o T Mg cg vo Lo,Fin (partsM s m) gf of S g o z∧(∀x∈S,x.1∈ordM m)∧S.length+o.length≤g.length∧g.Nodup∧(∀x∈g,x∈ordM m)∧SetD Mg g∧Stk 217 220 33 b4 (S.map plC8) T∧OwnSl 44 32 vo o.length (digsL o) Lo∧Step [] (T++((b12,mapObj Mg cg)::Lo)) w0 w'∧Holds f [(0,pt bm),(3,vo),(4,pt b4),(5,.map (some b12))]) (m:=K0) ?_ ?_
 ·exact⟨[(r,0)],[r],[],T1,_,_,_,[],hF0,fun x hx=>by obtain rfl:=mem_singleton.1 hx;exact hrU,by simp,by simp,fun x hx=>by obtain rfl:=mem_singleton.1 hx;exact hrU,hSet0,hS1,OwnSl.nil _ _,hs,rfl,rfl,rfl,rfl,trivial⟩
 clear hs hS1 hSet0
 rintro z f w ⟨S,g,o,T,Mg,cg,vo,Lo,hF,hSU,hlen,hnd,hgU,hSet,hS,ho,hs,hf⟩
 have ob:=hf.chain
 obtain⟨gg,rfl⟩:=ob
 have hgl:=nodup_len hnd hgU
 cases S with
 | nil=>
  have hof:=hF.nil_inv
  refine cB<|sr<|wE rfl (run_call en119 rfl rfl) (popplace_nil hS (Lives.of (L1:=T) hs)) ?_
  rintro e w ⟨zz,rfl,hz,hz1,hq⟩
  refine⟨_,rfl,?_⟩
  replace hs:=hs.callE hq
  refine wm<|wx rfl rfl<|wx rfl rfl<|WL.alloc ty220 rfl hs (fun b6 w hs=>?_)
  refine WL.storeAll ty220 rfl rfl ((hz)) ((hz1)) hs (by rfl) (fun w hs=>?_)
  refine wA<|wZ<|cq<|sr<|wm<|wN rfl<|wZ<|CW.cond rfl (fun h=>?_) (fun h=>?_)
  ·refine sr<|wm<|wA<|wZ<|CW.ret ?_
   refine fin_ret1 rfl ?_
   exact⟨_,Lo,rfl,by rw[←hof];exact ho,Step.tail (Step.dropL (L1:=T) hs.tail)⟩
  ·cases h
 | cons x S'=>
  obtain⟨d,n⟩:=x
  have hdU:d∈ordM m:=hSU (d,n) (by simp)
  have hd32:=h32 d hdU
  have hdl:(u8s d).length=32:=by rw[u8s,length_map,hd32]
  have hcl:=plC8_len (x:=(d,n)) hd32
  have hcn:(plC8 (d,n))[32]?=some (.int .i64 (n:Nat)):=by show(u8s d++[Value.int .i64 (n:Nat)])[32]?=_;rw[getElem?_append_right (by omega),hdl];rfl
  have hnle:=hF.le
  have hpd:=hpl d
  rw[length_cons] at hlen
  have hSU':∀x∈S',x.1∈ordM m:=fun x hx=>hSU x (by simp[hx])
  have ob:=hparts d
  obtain⟨vp,hvp,hvs⟩:=ob
  have ob:=hvs.form
  obtain⟨pa,pc,rfl⟩:=ob
  refine cB<|sr<|wE rfl (run_call en119 rfl rfl) (popplace_spec (c:=plC8 (d,n)) (l:=S'.map plC8) hS (by rw[length_map];omega) (Lives.of (L1:=T) hs)) ?_
  rintro e w ⟨T2,rfl,hS2,hq⟩
  refine⟨_,rfl,?_⟩
  replace hs:=Step.call (L1:=T) hs hq
  refine wm<|wx rfl rfl<|wx rfl rfl<|WL.alloc ty220 rfl hs (fun b6 w hs=>?_)
  refine WL.storeAll ty220 rfl rfl ((hcl)) ((plC8_c1 _)) hs (by rfl) (fun w hs=>?_)
  refine wA<|wZ<|cq<|sr<|wm<|wN rfl<|wZ<|CW.cond rfl (fun h=>?_) (fun h=>?_)
  ·cases h
  refine ck<|cq<|CW.quiet mixedP (by kernel_rfl) hs ?_
  refine qm<|qn rfl<|qF 2 u132 rfl ty130 rfl<|qL ty130 rfl (fun w hs=>(hatM hs.clear).cell (j:=2) rfl)<|qF 0 u220 rfl ty44 rfl<|qV (fun w hs=>run_loadN ty44 rfl hdl hs.a0.left)<|qV (fun w hs=>run_lookupV u130 (zDigs _) hPm.keys hd32 hvp rfl rfl (hq2 hs.clear))<|qA<|QL.nil (fun w hs=>?_)
  by_cases hn:n=(partsM s m d).length
  ·have ob:=hF.done hn
   obtain⟨K',hK,hF2⟩:=ob
   refine cq<|sr<|wF 32 u220 rfl ty3 rfl<|wl ty3 rfl (hs.c0 hcn)<|wm<|wL u35 rfl<|eT<|wZ<|CW.cond rfl (fun h=>?_) (fun h=>?_)
   ·refine sr<|wm<|wF 0 u220 rfl ty44 rfl<|wR ty44 rfl hdl hs.a0.left<|WL.buildSlice (cs:=u8s d) u35 ty44 rfl (by decide) rfl (filled1 hdl rfl) rfl hs (fun b51 w hs=>?_)
    have hsl51:Sl w 32 (.slice (some ⟨b51,0,none⟩) 1 1) 1 (u8s d):=.own1 hs (by rw[hdl])
    replace hs:=Step.bIn hs
    refine WL.append u35 u35 ty44 rfl (by decide) rfl rfl (ho) (hs) (hsl51) (Cells1.u8s _) (by omega) rfl (fun v52 Lv52 w hv52 hs=>?_)
    replace hs:=Step.bOut hs
    refine wA<|wZ ?_
    have ho2:OwnSl 44 32 v52 (o++[d]).length (digsL (o++[d])) Lv52:=by rw[length_append,digsL_snoc];exact hv52
    refine CW.exit<|(show _∧_ from⟨rfl,_,?_,S',g,o++[d],T2,Mg,cg,v52,Lv52,hF2,hSU',?_,hnd,hgU,hSet,hS2,ho2,hs,rfl,rfl,rfl,rfl,trivial⟩)
    ·exact hK
    ·rw[length_append,length_singleton];omega
   ·cases h
  ·have hnlt:n<(partsM s m d).length:=by omega
   have ob:∃x,(partsM s m d)[n]?=some x:=⟨_,getElem?_eq_getElem hnlt⟩
   obtain⟨x,hx⟩:=ob
   have hxU:=hPU d hdU x (mem_of_getElem? hx)
   have hx32:=h32 x hxU
   have hxl:(u8s x).length=32:=by rw[u8s,length_map,hx32]
   obtain⟨pb,po,pc2,hpe,hpat⟩:∃pb po pc2,Value.slice pa (partsM s m d).length pc=.slice (some ⟨pb,po,none⟩) (partsM s m d).length pc2∧At w0 pb po (digsL (partsM s m d)):=by
    obtain⟨_,⟨a,cc,h1,h2⟩ | ⟨b,off,cc,h1,h2⟩⟩:=hvs
    ·omega
    ·exact⟨b,off,cc,h1,h2⟩
   cases hpe
   have hxat:∀{w},Step [] [] w0 w→At w pb (po+n*32) (u8s x):=fun h=>digsL_at (fun y hy=>h32 y (hPU d hdU y hy)) (hpat.step h (by simp)) hx
   have ob:=hF.step hx
   obtain⟨K',hK,hF2⟩:=ob
   refine cq<|sr<|wF 32 u220 rfl ty3 rfl<|wl ty3 rfl (hs.c0 hcn)<|wm<|wL u35 rfl<|eF<|wZ<|CW.cond rfl (fun h=>?_) (fun h=>?_)
   ·cases h
   refine ck<|sr<|wm<|wF 32 u220 rfl ty3 rfl<|wl ty3 rfl (hs.c0 hcn)<|wI u35 ty44 rfl rfl<|wR ty44 rfl hxl (hxat hs.clear)<|WL.alloc ty44 rfl hs (fun b9 w hs=>?_)
   refine WL.storeAll ty44 rfl rfl ((hxl)) ((Cells1.u8s _)) hs (by rfl) (fun w hs=>?_)
   refine wZ<|sr<|wF 0 u220 rfl ty44 rfl<|wR ty44 rfl hdl hs.a1.left<|wF 32 u220 rfl ty3 rfl<|wl ty3 rfl (hs.c1 hcn)<|wP ((n+1:Nat):Int)<|wV (run_build rfl (bld_pl hd32 _ _))<|wE rfl (run_call en118 rfl rfl) (pushplace_spec (c:=plC8 (d,n+1)) hS2 (plC8_len hd32) (plC8_c1 _) (by rw[length_map];omega) (Lives.of (L1:=T2) (Step.bT hs))) ?_
   rintro e w ⟨T3,rfl,hS3,hq⟩
   refine⟨_,rfl,?_⟩
   replace hs:=Step.bU (Step.call (L1:=T2) (Step.bT hs) hq)
   refine wZ ?_
   have ob:=hSet.look x
   obtain⟨hl1,hl2⟩:=ob
   by_cases hxg:x∈g
   ·rw[if_pos hxg] at hF2
    rw[decide_eq_true hxg] at hl2
    refine sr<|wm<|wR ty44 rfl hxl hs.a0<|wV (run_lookupE u141 (zNone _) hSet.keys hx32 hl1 hl2 rfl rfl (hs.has (b12,mapObj Mg cg) (by simp)))<|wm<|wx rfl rfl<|wx rfl rfl<|WL.alloc ty142 rfl hs (fun b10 w hs=>?_)
    refine WL.storeAll ty142 rfl rfl ((by rfl)) ((Cells1.of_all rfl)) hs (by rfl) (fun w hs=>?_)
    refine wA<|wZ<|sr<|wm<|wN rfl<|wZ<|CW.cond rfl (fun h=>?_) (fun h=>?_)
    ·cases h
    replace hs:=Step.bW hs
    refine ck<|(show _∧_ from⟨rfl,_,?_,(d,n+1)::S',g,o,T3,Mg,cg,vo,Lo,hF2,?_,?_,hnd,hgU,hSet,hS3,ho,hs,rfl,rfl,rfl,rfl,trivial⟩)
    ·exact hK
    ·intro y hy
     rcases mem_cons.1 hy with rfl | hy
     ·exact hdU
     ·exact hSU' y hy
    ·exact hlen
   ·rw[if_neg hxg] at hF2
    rw[decide_eq_false hxg] at hl2
    refine sr<|wm<|wR ty44 rfl hxl hs.a0<|wV (run_lookupE u141 (zNone _) hSet.keys hx32 hl1 hl2 rfl rfl (hs.has (b12,mapObj Mg cg) (by simp)))<|wm<|wx rfl rfl<|wx rfl rfl<|WL.alloc ty142 rfl hs (fun b10 w hs=>?_)
    refine WL.storeAll ty142 rfl rfl ((by rfl)) ((Cells1.of_all rfl)) hs (by rfl) (fun w hs=>?_)
    refine wA<|wZ<|sr<|wm<|wN rfl<|wZ<|CW.cond rfl (fun h=>?_) (fun h=>?_)
    ·replace hs:=Step.bQ hs
     refine sr<|wm<|wR ty44 rfl hxl hs.a2<|wV (run_build rfl (bld_none _))<|WL.mapPut u141 rfl rfl rfl hSet.keys hx32 hs (fun w hs=>?_)
     refine wZ ?_
     replace hs:=Step.bR hs
     refine cr<|wR ty44 rfl hxl (At.of_blk (hs.has (b9,blk 44 (u8s x)) (by simp)))<|wV (run_build rfl (bld_p0 hx32 _))<|wE rfl (run_call en118 rfl rfl) (pushplace_spec (c:=plC8 (x,0)) hS3 (plC8_len hx32) (plC8_c1 _) (by rw[length_cons,length_map];omega) (Lives.of (L1:=T3) hs)) ?_
     rintro e w ⟨T4,rfl,hS4,hq⟩
     refine⟨_,rfl,?_⟩
     replace hs:=Step.bS (Step.call (L1:=T3) hs hq)
     refine wZ<|(show _∧_ from⟨rfl,_,?_,(x,0)::(d,n+1)::S',g++[x],o,T4,_,_,vo,Lo,hF2,?_,?_,?_,?_,hSet.put hx32 cg,hS4,ho,hs,rfl,rfl,rfl,rfl,trivial⟩)
     ·exact hK
     ·intro y hy
      rcases mem_cons.1 hy with rfl | hy
      ·exact hxU
      ·rcases mem_cons.1 hy with rfl | hy
       ·exact hdU
       ·exact hSU' y hy
     ·rw[length_append,length_singleton,length_cons,length_cons];omega
     ·rw[nodup_append]
      refine⟨hnd,nodup_cons.2 ⟨by simp,nodup_nil⟩,fun a ha b hb he=>?_⟩
      rw[mem_singleton] at hb
      exact hxg (hb▸he▸ha)
     ·intro y hy
      rcases mem_append.1 hy with hy | hy
      ·exact hgU y hy
      ·rw[mem_singleton] at hy;exact hy▸hxU
    ·cases h
end
def Cov (s:AS) (t t':WS):Prop:=∃n,t'.m=t.m++n∧∀p∈n,(s.get p.1).2=0∧(p.2=true→decE (s.get p.1).1=0∧∀x∈partsD s p.1,x∈t'.m.map (·.1))
section
variable{s:AS}{rm:Rm}{t u v:WS}
theorem Cov.refl (t:WS):Cov s t t:=⟨[],by simp,fun p hp=>by cases hp⟩
theorem Cov.trans (h:Cov s t u) (k:Cov s u v):Cov s t v:=by
 obtain⟨n,h1,h2⟩:=h
 obtain⟨l,k1,k2⟩:=k
 refine⟨n++l,by rw[k1,h1,append_assoc],fun p hp=>?_⟩
 rcases mem_append.1 hp with hp | hp
 ·have ob:=h2 p hp
  obtain⟨a,b⟩:=ob
  refine⟨a,fun hd=>⟨(b hd).1,fun x hx=>?_⟩⟩
  have:=(b hd).2 x hx
  rw[k1,map_append]
  exact mem_append_left _ this
 ·exact k2 p hp
theorem Cov.mem (h:Cov s t u){d:U8} (hd:d∈t.m.map (·.1)):d∈u.m.map (·.1):=by
 obtain⟨n,h1,_⟩:=h
 rw[h1,map_append]
 exact mem_append_left _ hd
theorem seqS_cov{f:Std→WS→Int×WS}:∀{l:List Std}{t:WS},(∀x∈l,∀t,(f x t).1=0→Cov s t (f x t).2∧x.d∈(f x t).2.m.map (·.1))→(seqS f l t).1=0→Cov s t (seqS f l t).2∧∀x∈l,x.d∈(seqS f l t).2.m.map (·.1)
 | [],t,_,_=>⟨Cov.refl t,fun x hx=>by cases hx⟩
 | x::l,t,hf,he=>by
  rw[seqS] at he⊢
  by_cases c:(f x t).1≠0
  ·rw[if_pos c] at he;exact absurd he c
  ·rw[if_neg c] at he⊢
   have ob:=hf x (by simp) t (by simpa using c)
   obtain⟨h1,h2⟩:=ob
   have ob:=seqS_cov (fun y hy=>hf y (by simp[hy])) he
   obtain⟨h3,h4⟩:=ob
   refine⟨h1.trans h3,fun y hy=>?_⟩
   rcases mem_cons.1 hy with rfl | hy
   ·exact h3.mem h2
   ·exact h4 y hy
theorem standP_cov:∀(n:Nat){x:Std}{t:WS},(standP s rm n x t).1=0→Cov s t (standP s rm n x t).2∧x.d∈(standP s rm n x t).2.m.map (·.1)
 | 0,x,t,he=>by cases he
 | n+1,x,t,he=>by
  rw[standP] at he⊢
  by_cases c:(visit s rm x t).1≠0
  ·rw[if_pos c] at he;exact absurd he c
  ·rw[if_neg c] at he⊢
   have c0:(visit s rm x t).1=0:=by simpa using c
   have hm:=visit_m c0
   obtain⟨h1,h2⟩:=seqS_cov (s:=s) (f:=fun y u=>standP s rm n y (push y u)) (fun y hy u hu=>by
    have h3:=standP_cov n (x:=y) (t:=push y u) hu
    refine⟨?_,h3.2⟩
    have ob:=h3.1
    obtain⟨l,h4,h5⟩:=ob
    exact⟨l,by rw[h4,push_m],h5⟩) he
   have hin:x.d∈(visit s rm x t).2.2.m.map (·.1):=by rw[hm,map_append];simp
   refine⟨?_,h1.mem hin⟩
   obtain⟨l,h4,h5⟩:=h1
   have ob:=visit_ok c0
   obtain⟨_,_,g0,hk⟩:=ob
   refine⟨(x.d,x.dir)::l,by rw[h4,hm,append_assoc];rfl,fun p hp=>?_⟩
   rcases mem_cons.1 hp with rfl | hp
   ·refine⟨g0,fun hd=>?_⟩
    rcases hk with⟨_,e0,ek⟩ | ⟨e0,_⟩
    ·refine⟨e0,fun y hy=>?_⟩
     have ob:=mem_map.1 hy
     obtain⟨e,he',rfl⟩:=ob
     exact h2 (kidOf x e) (by rw[ek];exact mem_map.2 ⟨e,he',rfl⟩)
    ·rw[e0] at hd;cases hd
   ·exact h5 p hp
theorem ordM_head{d:U8} (b:Bool) (n:List (U8×Bool)):(ordM ((d,b)::n))[0]?=some d:=by
 have h:∀(n:List (U8×Bool)) (o:List (List UInt8)),o[0]?=some d→(n.foldl (fun o p=>if p.1∈o then o else o++[p.1]) o)[0]?=some d:=by
  intro n
  induction n with
  | nil=>exact fun o h=>h
  | cons p n ih=>
   intro o h
   rw[foldl_cons]
   refine ih _ ?_
   split
   ·exact h
   ·rw[List.getElem?_append_left (List.getElem?_eq_some_iff.1 h).1];exact h
 show(((d,b)::n).foldl _ [])[0]?=_
 rw[foldl_cons]
 exact h n _ (by simp)
structure Met (s:AS) (d:(List UInt8)) (m:List ((List UInt8)×Bool)):Prop where
 head:(ordM m)[0]?=some d
 got:∀p∈m,(s.get p.1).2=0
 len:∀e∈ordM m,e.length=32
 sub:∀e∈ordM m,∀x∈partsM s m e,x∈ordM m
theorem runs_met{d:U8}{t:WS} (hd:d.length=32) (h:runs s rm [rootS d] ws0=(0,t)):Met s d t.m:=by
 rw[runs_root] at h
 have h0:(standP s rm 34 (rootS d) ws0).1=0:=by rw[h]
 have h32:=root_M32 hd h0
 have ob:=root_split h0
 obtain⟨t1,h1,_,h2⟩:=ob
 have hc:=(standP_cov 34 h0).1
 rw[h] at hc h32
 obtain⟨n,hn,hp⟩:=hc
 have hn':t.m=n:=by rw[hn];rfl
 rw[←hn'] at hp
 have hle:∀e∈ordM t.m,e.length=32:=fun e he=>by
  rw[ordM_mem] at he
  have ob:=mem_map.1 he
  obtain⟨p,hp,rfl⟩:=ob
  exact h32 p hp
 refine⟨?_,fun p hpm=>(hp p hpm).1,hle,fun e he x hx=>?_⟩
 ·have hs:(seqS (fun y u=>stand s rm 33 y u) (kids (rootS d) (s.get d).1) t1).1=0:=by rw[←h2];exact h0
  obtain⟨⟨l,hl,_⟩,_⟩:=seqS_cov (s:=s) (f:=fun y u=>stand s rm 33 y u) (fun y hy u hu=>by
   have h3:=standP_cov 33 (x:=y) (t:=push y u) hu
   have ob:=h3.1
   obtain⟨l,h4,h5⟩:=ob
   exact⟨⟨l,by rw[stand,h4,push_m],h5⟩,h3.2⟩) hs
  rw[←h2,h,h1] at hl
  rw[hl]
  exact ordM_head true l
 ·unfold partsM at hx
  split at hx
  ·rename_i hm
   rw[ordM_mem]
   exact((hp _ hm).2 rfl).2 x hx
  ·cases hx
theorem Met.goes{d:U8}{m:List (U8×Bool)} (h:Met s d m):∃gf of k,Goes (partsM s m) [d] [] [] gf of k:=by
 obtain⟨g,o,k,hG⟩:=goes_all (P:=partsM s m) (U:=ordM m) h.sub _ [d] [] [] (Nat.le_refl _) fun x hx=>by
  obtain rfl:=mem_singleton.1 hx
  exact mem_of_getElem? h.head
 exact⟨g,o,k,hG⟩
end
section
variable{br:Nat}{s:AS}{D R:OL}{d:U8}{w0:World}
end
section
variable{S:List Nat}{a b q:Nat×Obj}{Lo X:OL}{w w':World}
theorem Step.pIn (h:Step S (a::(Lo++X)) w w'):Step S (Lo++(a::X)) w w':=h.perm perm_middle.symm
theorem Step.pOut (h:Step S (Lo++(a::X)) w w'):Step S (Lo++X) w w':=Step.tail (p:=a) (h.perm perm_middle)
end
section
variable{br:Nat}{s:AS}{D R:OL}{d:U8}{w0:World}{m:List (U8×Bool)}{v:Value}
end
section
variable{S:List Nat}{a b q:Nat×Obj}{Lg Lo Lu A X B:OL}{w w':World}
end
def GRep (bG br:Nat) (vL:Value) (g o:List (List UInt8)) (W:(List (Nat×Obj))):Prop:=
 ∃vg Lg vo Lo,W=(bG,blk 225 [.pointer (some ⟨br,0,none⟩),vL,vg,vo])::(Lg++Lo)∧OwnSl 44 32 vg g.length (digsL g) Lg∧OwnSl 44 32 vo o.length (digsL o) Lo
section
variable{br bG:Nat}{s:AS}{D R LvL:OL}{r:U8}{m:List (U8×Bool)}{vL:Value}
end
end Go.Gx
namespace Go.Gx
open Go.Proofs List
theorem entsP_len{bs:U8}:∀{n:Nat}{a:U8}{p q:Nat}{l:List Ent},entsP bs n a p=.ok (l,q)→l.length=n
 | 0,a,p,q,l,h=>by
  unfold entsP at h
  injection h with h;injection h with h1 h2
  subst h1;rfl
 | n+1,a,p,q,l,h=>by
  unfold entsP at h
  split at h
  ·cases h
  ·rename_i x q' h1
   split at h
   ·cases h
   ·rename_i l' r h2
    injection h with h;injection h with h3 h4
    subst h3
    rw[length_cons,entsP_len h2]
theorem decL_len (y:U8):(decL y).length≤1024:=by
 unfold decL
 split
 ·unfold readP
  split
  ·exact Nat.zero_le _
  ·rename_i l q h
   split
   ·exact Nat.zero_le _
   ·unfold decP at h
    split at h
    ·cases h
    ·split at h
     ·split at h
      ·cases h
      ·rename_i n q' hm
       have h1:=entsP_len h
       have h2:=(mostP_ok hm).2.2
       show l.length≤1024
       omega
     ·cases h
 ·exact Nat.zero_le _
theorem partsM_len (s:AS) (m:List (U8×Bool)) (d:U8):(partsM s m d).length<1000000000:=by
 unfold partsM
 split
 ·unfold partsD
  rw[length_map]
  have:=decL_len (s.get d).1
  omega
 ·decide
end Go.Gx
namespace Go.Gx
open Go.Proofs List
attribute [local irreducible] shaL cutD frontL
def copyR (t:AS):List ((List UInt8)×(List UInt8))→Nat→Nat×Int×AS
 | [],n=>(n,0,t)
 | (d,b)::l,n=>if (t.put b).2.1≠0 then (n,(((t.put b).2.1:Nat):Int),(t.put b).2.2) else copyR (t.put b).2.2 l (if (t.put b).2.2.stamp d=t.stamp d then n else n+1)
section
variable{t:AS}{d b:U8}{l:List (U8×U8)}{n:Nat}
def cpR (r:Int×WS) (s t:AS) (of:List (List UInt8)):Nat×Int×AS:=if r.1≠0 then (0,r.1,t) else copyR t (of.map fun x=>(x,(s.get x).1)) 0
end
theorem Met.of_le{s:AS}{d:U8}{m:List (U8×Bool)}{gf of:List (List UInt8)}{k:Nat} (h:Met s d m) (hG:Goes (partsM s m) [d] [] [] gf of k):of.length≤m.length∧∀x∈of,x∈ordM m:=by
 have h1:=hG.nodup nodup_nil
 have h2:=hG.sub h.sub (fun x hx=>by obtain rfl:=mem_singleton.1 hx;exact mem_of_getElem? h.head) (fun x hx=>by cases hx)
 have ob:=hG.ext
 obtain⟨n,t,e1,e2,hp⟩:=ob
 rw[nil_append] at e1 e2
 subst e1
 subst e2
 have h3:=nodup_len h1 h2
 have h4:=ordM_len m
 exact⟨by rw[hp.length_eq];omega,fun x hx=>h2 x (hp.mem_iff.1 hx)⟩
section
variable{S:List Nat}{a p q:Nat×Obj}{A B C E O Z X Y:OL}{w w':World}
end
section
variable{bf tp:Nat}{s t1:AS}{Q:OL→OL→Prop}{Lt O D:OL}{d:U8}{r:Int×WS}{rn rd rb:Int}{N k kw:Nat}{gf of:List (List UInt8)}{w0:World}
def WkTo (bf tp:Nat) (s t1:AS) (Q:(List (Nat×Obj))→(List (Nat×Obj))→Prop) (Lt O D:(List (Nat×Obj))) (r:Int×WS) (w:World) (e:Ending) (w':World):Prop:=
 ∃v L1 O1 D1 M,e=.returned (.tuple #[v,.int .i64 r.1])∧PRep tp t1 (D1++D) L1∧Q (D1++D) O1∧(r.1=0→∃bm,v=.pointer (some ⟨bm,0,none⟩)∧MetRep bm s r.2.m (D1++D) M)∧Step (List.map (·.1) (Lt++O)) (L1++(O1++(M++D1))) w w'
end
section
variable{br:Nat}{s:AS}{D R:OL}{d:U8}{w0:World}
end
section
variable{bf tp:Nat}{s t1:AS}{I:AS→Prop}{Q:OL→OL→Prop}{Rt O D:OL}{d:U8}{r:Int×WS}{rn rd rb:Int}{N k kw:Nat}{gf of:List (List UInt8)}{w0:World}
def WkToR (bf tp:Nat) (t1:AS) (Q:(List (Nat×Obj))→(List (Nat×Obj))→Prop) (Rt O D:(List (Nat×Obj))) (r:Int×WS) (w:World) (e:Ending) (w':World):Prop:=
 ∃v R1 O1 D1 Lv,e=.returned (.tuple #[v,.int .i64 r.1])∧RRep tp t1 (D1++D) R1∧Q (D1++D) O1∧(r.1=0→OwnSl 137 33 v r.2.m.length (rowsSt r.2.m) Lv)∧Step (List.map (·.1) (Rt++O)) (R1++(O1++(Lv++D1))) w w'
end
section
variable{bp br tp tr:Nat}{s t:AS}{D L Lt R Rt:OL}{d:U8}{rn rd rb:Int}{N k:Nat}{gf of:List (List UInt8)}{w0:World}
structure Wkd (s:AS) (d:(List UInt8)) (r:Int×WS) (gf of:List (List UInt8)) (k:Nat):Prop where
 met:r.1=0→Met s d r.2.m
 len:r.1=0→r.2.m.length≤65536
 m32:r.1=0→∀p∈r.2.m,p.1.length=32
 go:r.1=0→Goes (partsM s r.2.m) [d] [] [] gf of k
theorem runs_wkd (hd:d.length=32) (hrm:(rmOf rn rd rb).Ok):∃gf of k,Wkd s d (runs s (rmOf rn rd rb) [rootS d] ws0) gf of k∧of.length≤65536:=by
 have hmet:=fun{t:WS} h=>runs_met (s:=s) (rm:=rmOf rn rd rb) (t:=t) hd h
 have hgd:=standP_good (s:=s) (rm:=rmOf rn rd rb) hrm 34 (x:=rootS d) (t:=ws0) (ws0_good.mono (by omega))
 have hM32:=root_M32 (s:=s) (rm:=rmOf rn rd rb) hd
 rw[←runs_root] at hgd hM32
 have ob:∃r,runs s (rmOf rn rd rb) [rootS d] ws0=r:=⟨_,rfl⟩
 obtain⟨r,hr⟩:=ob
 rw[hr] at hmet hgd hM32⊢
 by_cases he:r.1=0
 ·have h1:=hmet (t:=r.2) (by rw[←he])
  have hg:=hgd he
  have hml:r.2.m.length≤65536:=Nat.le_trans hg.m hg.n
  have ob:=h1.goes
  obtain⟨gf,of,k,hG⟩:=ob
  exact⟨gf,of,k,⟨fun _=>h1,fun _=>hml,fun _=>hM32 he,fun _=>hG⟩,Nat.le_trans (h1.of_le hG).1 hml⟩
 ·exact⟨[],[],0,⟨fun h=>absurd h he,fun h=>absurd h he,fun h=>absurd h he,fun h=>absurd h he⟩,Nat.zero_le _⟩
section
variable{r:Int×WS}
end
section
variable (W:Wkd s d (runs s (rmOf rn rd rb) [rootS d] ws0) gf of k) (ok:s.Ok) (hfew:s.Few N) (hN:N<900000000) (hd:d.length=32) (hrm:(rmOf rn rd rb).Ok)
include W ok hfew hN hd hrm
end
end
def cp2 (r:Int×WS) (s t:AS) (of:List (List UInt8)):(Nat×Int×AS)×AS:=if s.k=t.k then (cpR r s t of,s.gotN r.2.g) else ((0,3,t),s)
section
variable{A B X:OL}{w w' w0:World}{S:List Nat}
end
section
variable{bp br tp tr:Nat}{s t:AS}{D L Lt R Rt:OL}{d:U8}{rn rd rb:Int}{N k:Nat}{gf of:List (List UInt8)}{w0:World}
section
variable (W:Wkd s d (runs s (rmOf rn rd rb) [rootS d] ws0) gf of k) (ok:s.Ok) (okt:t.Ok) (hfew:s.Few N) (hft:t.Few N) (hN:N<900000000) (hd:d.length=32) (hrm:(rmOf rn rd rb).Ok)
include W ok okt hfew hft hN hd hrm
end
end
end Go.Gx
namespace Go.Gx
open Go.Proofs List
def addAll:List (List (List UInt8))→(List UInt8)→Int→(List UInt8)×Int
 | [],c,ft=>(c,ft)
 | ps::l,c,ft=>addAll l (addC c ft ps) (addF c ft ps)
theorem addAll_err{ft:Int} (h:ft≠0):∀(l:List (List (List UInt8))) (c:U8),addAll l c ft=(c,ft)
 | [],c=>rfl
 | ps::l,c=>by
  have h1:addF c ft ps=ft:=by unfold addF;rw[if_neg (fun hh=>h hh.1)]
  have h2:addC c ft ps=c:=by unfold addC;rw[h1,if_neg h]
  rw[addAll,h1,h2,addAll_err h l c]
theorem addAll_snoc (ps:List (List UInt8)):∀(l:List (List (List UInt8))) (c:U8) (ft:Int),addAll (l++[ps]) c ft=(addC (addAll l c ft).1 (addAll l c ft).2 ps,addF (addAll l c ft).1 (addAll l c ft).2 ps)
 | [],c,ft=>rfl
 | qs::l,c,ft=>by rw[cons_append,addAll,addAll,addAll_snoc ps l]
theorem addAll_ok:∀(l:List (List (List UInt8))) (c:U8),c.length≤4194304→(addAll l c 0).2=(if c.length+(l.flatMap List.flatten).length≤4194304 then 0 else 2)∧(c.length+(l.flatMap List.flatten).length≤4194304→(addAll l c 0).1=c++l.flatMap List.flatten)
 | [],c,h=>by simp[addAll,h]
 | ps::l,c,h=>by
  by_cases hb:c.length+ps.flatten.length≤4194304
  ·have h1:addF c 0 ps=0:=by unfold addF;rw[if_neg (by omega)]
   have h2:addC c 0 ps=c++ps.flatten:=by unfold addC;rw[h1,if_pos rfl]
   have ih:=addAll_ok l (c++ps.flatten) (by rw[length_append];exact hb)
   rw[addAll,h1,h2]
   rw[length_append] at ih
   rw[flatMap_cons,length_append,←Nat.add_assoc,←append_assoc]
   exact ih
  ·have h1:addF c 0 ps=2:=by unfold addF;rw[if_pos ⟨rfl,by omega⟩]
   rw[addAll,h1,addAll_err (by decide),flatMap_cons,length_append]
   refine⟨?_,fun hh=>?_⟩
   ·rw[if_neg (by omega)]
   ·omega
theorem addAll_le:∀(l:List (List (List UInt8))) (c:U8) (ft:Int),c.length≤4194304→(addAll l c ft).1.length≤4194304
 | [],c,ft,h=>h
 | ps::l,c,ft,h=>by
  refine addAll_le l _ _ ?_
  unfold addC
  by_cases hf:addF c ft ps=0
  ·rw[if_pos hf]
   unfold addF at hf
   by_cases hx:ft=0∧c.length+ps.flatten.length > 4194304
   ·rw[if_pos hx] at hf;cases hf
   ·rw[if_neg hx] at hf
    rw[length_append]
    have:¬(c.length+ps.flatten.length > 4194304):=fun hh=>hx ⟨hf,hh⟩
    omega
  ·rw[if_neg hf];exact h
def packB (k:Nat) (l:List (List UInt8)):(List UInt8):=formB 5++formB k++formB l.length++l.flatMap fun x=>formB x.length++x
theorem done_bad{b:Nat}{c:U8}{ft:Int}{Lw:OL} (w0:World) (hW:Wr b c ft Lw) (hO:Step (Lw.map (·.1)) Lw w0 w0) (hft:ft≠0) :
  CP 87 #[pt b] w0 (Ret0 (.tuple #[.slice none 0 0,.int .i64 ft]) w0):=by
 obtain⟨v,Lv,rfl,hv⟩:=hW
 have hb:w0.heap[b]?=some (blk 237 [v,.int .i64 ft]):=hO.has (b,blk 237 [v,.int .i64 ft]) (by simp)
 have hat:At w0 b 0 [v,.int .i64 ft]:=At.of_blk hb
 have hs:Step [] [] w0 w0:=Step.refl w0
 refine calls (n:=18) Tryz.func87 rfl rfl rfl ?_
 refine sr<|wA<|wA<|wZ<|cq<|sr<|wm<|wn rfl<|wF 1 u237 rfl ty36 rfl<|wl ty36 rfl ((hat.step hs.clear (by simp)).cell (j:=1) rfl)<|wV (run_bT (run_neq rfl rfl) (by exact hft))<|wZ ?_
 refine CW.cond rfl (fun h=>?_) (fun h=>?_)
 ·refine cq<|CW.quiet mixedP (by kernel_rfl) hs ?_
  refine qm<|qn rfl<|qF 1 u237 rfl ty36 rfl<|qL ty36 rfl (fun w hs=>(hat.step hs.clear (by simp)).cell (j:=1) rfl)<|qA<|qA<|QL.nil (fun w hs=>?_)
  refine CW.ret ?_
  refine fin_ret2 rfl ?_
  exact⟨rfl,hs.clear⟩
 ·cases h
end Go.Gx
namespace Go.Gx
open Go.Proofs List
attribute [local irreducible] shaL cutD frontL
def packR (s:AS) (r:Int×WS) (of:List (List UInt8)):(List UInt8)×Int:=if r.1≠0 then ([],r.1) else if (packB s.k (of.map fun d=>(s.get d).1)).length≤4194304 then (packB s.k (of.map fun d=>(s.get d).1),0) else ([],2)
theorem Step.kDrop{S:List Nat}{A B C X:OL}{w w':World} (h:Step S (A++(B++(C++X))) w w'):Step S (A++X) w w':=Step.dropL (L1:=B++C) (h.perm (by classical exact perm_iff_count.2 fun x=>by simp only[count_append];omega))
theorem Step.k3{S:List Nat}{a p q:Nat×Obj}{A B E Z X:OL}{w w':World} (h:Step S (a::(A++(B++(E++((p::q::Z)++X))))) w w'):Step S [a,p,q] w w':=Step.dropR (L1:=[a,p,q]) (L2:=A++(B++(E++(Z++X)))) (h.perm (by classical exact perm_iff_count.2 fun x=>by simp only[count_append,count_cons,count_nil];omega))
theorem Step.k4{S:List Nat}{a p q:Nat×Obj}{A B E Z X:OL}{w w':World} (h:Step S (A++(a::(B++(E++((p::q::Z)++X))))) w w'):Step S [a,p,q] w w':=Step.dropR (L1:=[a,p,q]) (L2:=A++(B++(E++(Z++X)))) (h.perm (by classical exact perm_iff_count.2 fun x=>by simp only[count_append,count_cons,count_nil];omega))
theorem Step.noM{S:List Nat}{L1 M X:OL}{w w':World} (h:Step S (L1++(M++X)) w w'):Lives (L1++X) w':=Lives.of (L2:=M) (h.perm (by classical exact perm_iff_count.2 fun x=>by simp only[count_append];omega))
def pcs (s:AS) (n:Nat) (l:List (List UInt8)):List (List (List UInt8)):=[[formB 5],[formB s.k],[formB n]]++l.map fun d=>[formB (s.get d).1.length,(s.get d).1]
theorem pcs_snoc (s:AS) (n:Nat) (l:List (List UInt8)) (d:U8):pcs s n (l++[d])=pcs s n l++[[formB (s.get d).1.length,(s.get d).1]]:=by simp[pcs]
theorem pcs_packB (s:AS) (l:List (List UInt8)):(pcs s l.length l).flatMap List.flatten=packB s.k (l.map fun d=>(s.get d).1):=by
 have h:∀l:List (List UInt8),(l.map fun d=>[formB (s.get d).1.length,(s.get d).1]).flatMap List.flatten=(l.map fun d=>(s.get d).1).flatMap fun x=>formB x.length++x:=by
  intro l
  induction l with
  | nil=>rfl
  | cons x l ih=>rw[map_cons,flatMap_cons,ih,map_cons,flatMap_cons];simp
 rw[pcs,flatMap_append,h,packB,length_map]
 simp[append_assoc]
section
variable{bp:Nat}{s:AS}{D L:OL}{d:U8}{w0:World}{rn rd rb:Int}{N k:Nat}{gf of:List (List UInt8)}
set_option maxHeartbeats 8000000 in
theorem pack_spec (hR:PRep bp s D L) (ok:s.Ok) (hfew:s.Few N) (hN:N<1000000000000) (hd:d.length=32) (hrm:(rmOf rn rd rb).Ok) (hG:(runs s (rmOf rn rd rb) [rootS d] ws0).1=0→Goes (partsM s (runs s (rmOf rn rd rb) [rootS d] ws0).2.m) [d] [] [] gf of k) (hw:Lives (L++D) w0) :
  CP 33 #[pt bp,.agg (u8s d).toArray,.agg #[.int .i64 rn,.int .i64 rd,.int .i64 rb]] w0 fun e w'=>∃v Lv L' D',e=.returned (.tuple #[v,.int .i64 (packR s (runs s (rmOf rn rd rb) [rootS d] ws0) of).2])∧
   PRep bp (s.gotN (runs s (rmOf rn rd rb) [rootS d] ws0).2.g) (D'++D) L'∧OwnSl 5 1 v (packR s (runs s (rmOf rn rd rb) [rootS d] ws0) of).1.length (u8s (packR s (runs s (rmOf rn rd rb) [rootS d] ws0) of).1) Lv∧Step (L.map (·.1)) (L'++(Lv++D')) w0 w':=by
 have hw9:=fun{w1:World} h=>fwalk_spec (w0:=w1) hR ok hfew hN hd hrm h
 have hmet:=fun{t:WS} h=>runs_met (s:=s) (rm:=rmOf rn rd rb) (t:=t) hd h
 have ob:∃r,runs s (rmOf rn rd rb) [rootS d] ws0=r:=⟨_,rfl⟩
 obtain⟨r,hr⟩:=ob
 rw[hr] at hw9 hG⊢
 have hdl:(u8s d).length=32:=by rw[u8s,length_map,hd]
 have hs:Step (List.map (·.1) (L++D)) (L++D) w0 w0:=hw
 refine calls (n:=56) Tryz.func33 rfl rfl rfl ?_
 refine sr<|WL.box (cs:=u8s d) rfl rfl rfl hs (fun b4 w hs=>?_)
 refine WL.box (cs:=[.int .i64 rn,.int .i64 rd,.int .i64 rb]) rfl rfl rfl hs (fun b5 w hs=>?_)
 refine wA<|wA<|wZ<|sr<|wm<|wR ty44 rfl hdl hs.a1<|wR ty30 rfl rfl hs.a0<|wE rfl (run_call en64 rfl rfl) (hw9 (Lives.mk hs.tail.tail)) ?_
 rintro e w ⟨v,L1,D1,M,rfl,hP,hM,hnil,hq⟩
 refine⟨_,rfl,?_⟩
 replace hs:=Own.put (A:=[_,_]) (L:=L) hs hq
 refine wm<|wx rfl rfl<|wx rfl rfl<|wA<|wA<|wZ ?_
 replace hs:=hs.tail.tail
 by_cases he:r.1≠0
 ·have hre:packR s r of=([],r.1):=if_pos he
  rw[hre]
  refine cq<|sr<|wm<|wV (run_bT (run_neq rfl rfl) (by exact he))<|wZ<|CW.cond rfl (fun h=>?_) (fun h=>?_)
  ·refine sr<|wm<|wA<|wA<|wZ<|CW.ret ?_
   refine fin_ret2 rfl ?_
   exact⟨_,[],L1,M++D1,rfl,by rw[append_assoc];exact hP.mono mem_right,OwnSl.nil _ _,Step.fin (M:=[]) hw hs⟩
  ·cases h
 have he0:r.1=0:=by simpa using he
 have hmet:=hmet (t:=r.2) (by rw[hr,←he0])
 have ob:=hM he0
 obtain⟨bm,rfl,hMet⟩:=ob
 refine cq<|sr<|wm<|wV (run_bF (run_neq rfl rfl) (by exact he))<|wZ<|CW.cond rfl (fun h=>?_) (fun h=>?_)
 ·cases h
 have hgd:=standP_good (s:=s) (rm:=rmOf rn rd rb) hrm 34 (x:=rootS d) (t:=ws0) (ws0_good.mono (by omega))
 rw[←runs_root,hr] at hgd
 have hgd:=hgd he0
 have hml:r.2.m.length≤65536:=Nat.le_trans hgd.m hgd.n
 rw[append_assoc] at hs
 refine ck<|sr<|wm<|wE rfl (run_call en70 rfl rfl) (behind_spec hMet (Lives.mk (Step.dropL (L1:=L1) hs)) hmet.len hmet.sub (partsM_len s _) hml hmet.head (hG he0)) ?_
 rintro e w ⟨vo,Lo,rfl,hvo,hq⟩
 refine⟨_,rfl,?_⟩
 replace hs:=Step.call0 hs hq
 refine wA<|wZ ?_
 have ob:=hvo.form
 obtain⟨oa,oc,rfl⟩:=ob
 refine sr<|wE rfl (run_call en84 rfl rfl) (mnew_spec _) ?_
 rintro e w ⟨bw,Lw,rfl,hWr,hq⟩
 refine⟨_,rfl,?_⟩
 replace hs:=Step.call0 hs hq
 refine wA<|wZ<|sr<|wm<|wE rfl (run_call en85 rfl rfl) (num_spec 5 _ (by omega) hWr (Step.own hs) (by simp)) ?_
 rintro e w ⟨rfl,Lw1,hWr1,hq⟩
 refine⟨_,rfl,?_⟩
 replace hs:=Step.call (L1:=Lw) hs hq
 refine wZ ?_
 have hk1:=ok.k1
 have hk2:=ok.k2
 have hwid:=fun{w:World} (h:Step (List.map (·.1) (L++D)) (Lw1++(Lo++(L1++(M++(D1++D))))) w0 w)=>width_abs hP (ok.gotN _) (Step.noM (Step.dropL (L1:=Lo) (Step.dropL (L1:=Lw1) h)))
 have ob:=hmet.of_le (hG he0)
 obtain⟨hol,hofU⟩:=ob
 refine sr<|wm<|wm<|wE rfl (run_call en69 rfl rfl) (hwid hs) ?_
 rintro e w ⟨rfl,hq⟩
 refine⟨_,rfl,?_⟩
 replace hs:=hs.callE hq
 refine wE rfl (run_call en85 rfl rfl) (num_spec s.k _ (by omega) hWr1 (Step.own hs) (addAll_le [[formB 5]] [] 0 (by simp))) ?_
 rintro e w ⟨rfl,Lw2,hWr2,hq⟩
 refine⟨_,rfl,?_⟩
 replace hs:=Step.call (L1:=Lw1) hs hq
 refine wZ<|sr<|wm<|wm<|wL u35 rfl<|wE rfl (run_call en85 rfl rfl) (num_spec of.length _ (by omega) hWr2 (Step.own hs) (addAll_le [[formB 5],[formB s.k]] [] 0 (by simp))) ?_
 rintro e w ⟨rfl,Lw3,hWr3,hq⟩
 refine⟨_,rfl,?_⟩
 replace hs:=Step.call (L1:=Lw2) hs hq
 refine wZ<|CW.seqM (fun f w=>∃Lw',Wr bw (addAll (pcs s of.length of) [] 0).1 (addAll (pcs s of.length of) [] 0).2 Lw'∧Step (List.map (·.1) (L++D)) (Lw'++(Lo++(L1++(M++(D1++D))))) w0 w∧Holds f [(0,pt bp),(11,pt bw)]) ?_ ?_
 ·refine sr<|wm<|wL u35 rfl<|wm<|wZ<|cB<|CW.loop (fun z f w'=>∃i Lw',i≤of.length∧z=of.length - i∧Wr bw (addAll (pcs s of.length (of.take i)) [] 0).1 (addAll (pcs s of.length (of.take i)) [] 0).2 Lw'∧Step (List.map (·.1) (L++D)) (Lw'++(Lo++(L1++(M++(D1++D))))) w0 w'∧Holds f [(0,pt bp),(8,pt bm),(11,pt bw),(37,.slice oa of.length oc),(38,.int .i64 (of.length:Nat)),(39,.int .i64 (i:Nat))]) (m:=of.length) ?_ ?_
  ·exact⟨0,Lw3,Nat.zero_le _,rfl,hWr3,hs,rfl,rfl,rfl,rfl,rfl,rfl,trivial⟩
  clear hs
  rintro z f w ⟨i,Lw',hil,rfl,hWr',hs,hf⟩
  have ob:=hf.chain
  obtain⟨g,rfl⟩:=ob
  by_cases hlt:i<of.length
  ·have ob:∃x,of[i]?=some x:=⟨_,getElem?_eq_getElem hlt⟩
   obtain⟨x,hx⟩:=ob
   have hxU:=hofU x (mem_of_getElem? hx)
   have hx32:=hmet.len x hxU
   have hxl:(u8s x).length=32:=by rw[u8s,length_map,hx32]
   have hgx:=get_len ok x
   have ob:=hvo.some1 (by omega)
   obtain⟨bu,cu,more,hu1,hu2,hu3⟩:=ob
   cases hu1
   subst hu2
   have hxat:At w bu (0+i*32) (u8s x):=digsL_at (fun y hy=>hmet.len y (hofU y hy)) (At.of_blk (hs.has (bu,blk 44 (digsL of++more)) (by simp))).left hx
   obtain⟨vO,LO,q1,M1,c1,q2,M2,c2,rfl,hO,hB,hPm⟩:=hMet
   have hbv:=hB.val x
   obtain⟨u,hu,hHl⟩:∃u,((findD x M1 0).map (·.2)).getD (.slice none 0 0)=u∧Held (D1++D) u (s.get x).1:=by
    cases hv:valD x M1 with
    | none=>rw[hv] at hbv;exact absurd hxU hbv
    | some u=>
     rw[hv] at hbv
     refine⟨u,?_,hbv.2⟩
     show(valD x M1).getD _=_
     rw[hv];rfl
   refine sr<|lT<|wZ<|cq<|CW.cond rfl (fun h=>?_) (fun h=>?_)
   ·refine ck<|cq<|cB<|sr<|wI u35 ty44 rfl rfl<|wR ty44 rfl hxl hxat<|WL.alloc ty44 rfl hs (fun b13 w hs=>?_)
    refine WL.storeAll ty44 rfl rfl ((hxl)) ((Cells1.u8s _)) hs (by rfl) (fun w hs=>?_)
    refine wZ ?_
    have ob:∃X,(L1++(((bm,blk 132 [vO,.map (some q1),.map (some q2)])::(q1,mapObj M1 c1)::(q2,mapObj M2 c2)::LO)++(D1++D)))=X:=⟨_,rfl⟩
    obtain⟨X,hX⟩:=ob
    have ob:=id hHl
    obtain⟨Lv,hOv,hsub⟩:=ob
    have hDX:∀p∈Lv,p∈X:=fun p hp=>hX▸mem_append_right _ (mem_append_right _ (hsub p hp))
    have hk3:∀{w:World},Step (List.map (·.1) (L++D)) ((b13,blk 44 (u8s x))::(Lw'++([(bu,blk 44 (digsL of++more))]++X))) w0 w→Step (List.map (·.1) (L++D)) [(b13,blk 44 (u8s x)),(bm,blk 132 [vO,.map (some q1),.map (some q2)]),(q1,mapObj M1 c1)] w0 w:=fun h=>Step.k3 (by rw[←hX] at h;exact h)
    have hk4:∀{Y:OL}{w:World},Step (List.map (·.1) (L++D)) (Y++((b13,blk 44 (u8s x))::([(bu,blk 44 (digsL of++more))]++X))) w0 w→Step (List.map (·.1) (L++D)) [(b13,blk 44 (u8s x)),(bm,blk 132 [vO,.map (some q1),.map (some q2)]),(q1,mapObj M1 c1)] w0 w:=fun h=>Step.k4 (by rw[←hX] at h;exact h)
    rw[hX] at hs
    have hby:=fun{w:World} (h:Step (List.map (·.1) (L++D)) ((b13,blk 44 (u8s x))::(Lw'++([(bu,blk 44 (digsL of++more))]++X))) w0 w)=>bytes_spec (u:=u) (s:=(s.get x).1) w hWr' (Step.own (L1:=Lw') (Step.pIn h)) (addAll_le _ [] 0 (by simp)) (hOv.slH fun p hp=>h.has p (by simp[hDX p hp])) (hOv.outside fun p hp=>(Step.append_comm (Step.pIn h)).disj p (by simp[hDX p hp])) (by omega)
    have htk:of.take (i+1)=of.take i++[x]:=by rw[take_add_one,hx];rfl
    refine CW.any (A:=fun w=>Step (List.map (·.1) (L++D)) [(b13,blk 44 (u8s x)),(bm,blk 132 [vO,.map (some q1),.map (some q2)]),(q1,mapObj M1 c1)] w0 w) (C:=fun w=>Step (List.map (·.1) (L++D)) [(b13,blk 44 (u8s x)),(bm,blk 132 [vO,.map (some q1),.map (some q2)]),(q1,mapObj M1 c1)] w0 w) 1000000 8 mixedP rfl ?_
    replace hs:=hs.drew
    refine aM 0 rfl<|aM 1 rfl<|aN 2 rfl rfl<|aF 3 rfl 1 u132 rfl ty129 rfl<|aL 4 rfl ty129 rfl (fun w hs=>hs.c1 (v:=.map (some q1)) rfl)<|aV 5 rfl (fun w hs=>run_loadN ty44 rfl hxl hs.a0)<|aV 6 rfl (fun w hs=>run_lookupV u129 (zBytes _) hB.keys hx32 hu rfl rfl (hs.has (q1,mapObj M1 c1) (by simp)))<|AL.one 7 (by kernel_rfl) rfl (by exact hk3 hs) (by exact hk3 hs) ?_
    refine wE rfl (run_call en86 rfl rfl) (hby hs) ?_
    rintro e w ⟨rfl,Lw5,hW5,hq⟩
    refine⟨_,rfl,?_⟩
    replace hs:=Step.call (L1:=Lw') (Step.pIn hs) hq
    refine wZ<|⟨rfl,?_⟩
    refine AL.end (by kernel_rfl) (by exact hk4 hs) (by exact hk4 hs) ?_
    refine cr<|wP ((i+1:Nat):Int)<|wm<|wZ ?_
    have hs2:=Step.pOut hs
    rw[←hX] at hs2
    refine(show _∧_ from⟨rfl,_,?_,i+1,Lw5,hlt,rfl,?_,hs2,rfl,rfl,rfl,rfl,rfl,rfl,trivial⟩)
    ·omega
    ·rw[htk,pcs_snoc,addAll_snoc];exact hW5
   ·cases h
  ·obtain rfl:i=of.length:=by omega
   rw[take_length] at hWr'
   refine sr<|lF<|wZ<|cq<|CW.cond rfl (fun h=>?_) (fun h=>?_)
   ·cases h
   refine CW.exit ?_
   exact⟨rfl,Lw',hWr',hs,rfl,rfl,trivial⟩
 clear hs
 rintro f w ⟨Lw4,hWr4,hs,hf⟩
 have ob:=hf.chain
 obtain⟨g,rfl⟩:=ob
 have hal:=addAll_ok (pcs s of.length of) [] (by simp)
 rw[pcs_packB,length_nil,Nat.zero_add,nil_append] at hal
 by_cases hfit:(packB s.k (of.map fun d=>(s.get d).1)).length≤4194304
 ·have hre:packR s r of=(packB s.k (of.map fun d=>(s.get d).1),0):=by rw[packR,if_neg he,if_pos hfit]
  rw[hre]
  rw[hal.2 hfit,hal.1,if_pos hfit] at hWr4
  refine sr<|wm<|wE rfl (run_call en87 rfl rfl) (done_ok _ hWr4 (Step.own hs) hfit) ?_
  rintro e w ⟨v',Lv',rfl,hv',hq⟩
  refine⟨_,rfl,?_⟩
  replace hs:=Step.call0 hs hq
  refine wx rfl rfl<|wx rfl rfl<|wA<|wA<|wZ<|CW.ret ?_
  refine fin_ret2 rfl ?_
  exact⟨v',Lv',L1,M++D1,rfl,by rw[append_assoc];exact hP.mono mem_right,hv',Step.fin (M:=Lv') hw (by rw[append_assoc];exact Step.kDrop hs)⟩
 ·have hre:packR s r of=([],2):=by rw[packR,if_neg he,if_neg hfit]
  rw[hre]
  rw[hal.1,if_neg hfit] at hWr4
  refine sr<|wm<|wE rfl (run_call en87 rfl rfl) (done_bad _ hWr4 (Step.own hs) (by decide)) ?_
  rintro e w ⟨rfl,hq⟩
  refine⟨_,rfl,?_⟩
  replace hs:=hs.callE hq
  refine wx rfl rfl<|wx rfl rfl<|wA<|wA<|wZ<|CW.ret ?_
  refine fin_ret2 rfl ?_
  exact⟨_,[],L1,M++D1,rfl,by rw[append_assoc];exact hP.mono mem_right,OwnSl.nil _ _,Step.fin (M:=[]) hw (by rw[append_assoc];exact Step.dropL (L1:=Lo) (Step.dropL (L1:=Lw4) hs))⟩
end
end Go.Gx
namespace Go.Gx
open Go.Proofs List
def pkI (k n:Nat) (B:List (Value×(List UInt8))):List Wit:=[⟨1,5,.slice none 0 0,[]⟩,⟨1,k,.slice none 0 0,[]⟩,⟨1,n,.slice none 0 0,[]⟩]++B.map fun t=>⟨4,0,t.1,t.2⟩
def packE (b:(List UInt8)):(List UInt8)×Int:=if b.length≤4194304 then (b,0) else ([],2)
end Go.Gx
namespace Go.Gx
open Go.Proofs List
attribute [local irreducible] shaL cutD frontL
section
variable{s:AS}{rm:Rm}{g:Nat}
theorem visit_gotN (x:Std) (t:WS):visit (s.gotN g) rm x t=visit s rm x t:=rfl
theorem standP_gotN:∀(n:Nat) (x:Std) (t:WS),standP (s.gotN g) rm n x t=standP s rm n x t
 | 0,_,_=>rfl
 | n+1,x,t=>by
  rw[standP,standP,visit_gotN]
  split
  ·rfl
  ·exact seqS_congr fun y _ u=>standP_gotN n y (push y u)
theorem runs_gotN (l:List Std) (t:WS):runs (s.gotN g) rm l t=runs s rm l t:=seqS_congr fun y _ u=>standP_gotN _ y (push y u)
end
def sweepW (s:AS) (rm:Rm):List (List UInt8)→Nat→List (List UInt8)→Int×Nat×List (List UInt8)
 | [],g,m=>(0,g,m)
 | d::l,g,m=>if (runs s rm [rootS d] ws0).1≠0 then ((runs s rm [rootS d] ws0).1,g+(runs s rm [rootS d] ws0).2.g,m) else sweepW s rm l (g+(runs s rm [rootS d] ws0).2.g) (m++ordM (runs s rm [rootS d] ws0).2.m)
def goneL (m l:List (List UInt8)):List (List UInt8):=l.filter fun d=>decide (d∉m)
def evAll (s:AS) (l:List (List UInt8)):AS:=l.foldl AS.evict s
def sweepR (s:AS) (rm:Rm) (roots:List (List UInt8)):Nat×Int×AS:=
 if 65536<roots.length then (0,2,s)
 else if (sweepW s rm roots 0 []).1≠0 then (0,(sweepW s rm roots 0 []).1,s.gotN (sweepW s rm roots 0 []).2.1)
 else ((goneL (sweepW s rm roots 0 []).2.2 (s.X.map (·.d))).length,0,evAll (s.gotN (sweepW s rm roots 0 []).2.1) (goneL (sweepW s rm roots 0 []).2.2 (s.X.map (·.d))))
theorem findX_del{d e:U8} (h:d≠e):∀X:List Blb,findX d (delX e X)=findX d X
 | []=>rfl
 | b::X=>by
  have ih:=findX_del h X
  by_cases hb:b.d=e
  ·have h1:delX e (b::X)=delX e X:=by simp[delX,hb]
   have h2:findX d (b::X)=findX d X:=by
    rw[findX,List.find?_cons]
    have:decide (b.d=d)=false:=by rw[hb];exact decide_eq_false fun h'=>h h'.symm
    rw[this]
    rfl
   rw[h1,h2,ih]
  ·have h1:delX e (b::X)=b::delX e X:=by simp[delX,hb]
   rw[h1,findX,findX,List.find?_cons,List.find?_cons]
   rw[findX,findX] at ih
   rw[ih]
theorem gotN_add (s:AS) (a b:Nat):(s.gotN a).gotN b=s.gotN (a+b):=by simp[AS.gotN,Nat.add_assoc]
section
variable{S:List Nat}{a b c e p q:Nat×Obj}{A B C X Y:OL}{w w':World}
end
section
variable{bp:Nat}{s:AS}{D L Lr:OL}{roots:List (List UInt8)}{v:Value}{w0:World}{rn rd rb:Int}{N:Nat}
end
theorem digsL_append (l m:List (List UInt8)):digsL (l++m)=digsL l++digsL m:=by simp[digsL]
theorem digsL_c1:∀l:List (List UInt8),Cells1 (digsL l)
 | []=>Cells1.of_all rfl
 | d::l=>(Cells1.u8s d).append (digsL_c1 l)
section
variable{br:Nat}{s:AS}{D R Lr:OL}{roots:List (List UInt8)}{v:Value}{w0:World}{rn rd rb:Int}{N:Nat}
end
end Go.Gx
namespace Go.Gx
open Go.Proofs List
section
variable{P:Program}{ops:Array Oper}{n:Nat}{rest:List Oper}{f:Slots}{ds:List Deferred}{w w0:World}{S:List Nat}{L:OL}{Q:Post}{d:Nat}{ty:TypeId}{pos:String}{af:Array Edge}{x y:Operand}{T:TypeId}
end
theorem digsL_len{l:List (List UInt8)} (h:∀d∈l,d.length=32):(digsL l).length=l.length*32:=by
 induction l with
 | nil=>rfl
 | cons d l ih=>
  have h1:(digsL (d::l))=u8s d++digsL l:=rfl
  rw[h1,length_append,ih fun e he=>h e (by simp[he]),u8s,length_map,h d (by simp),length_cons]
  omega
end Go.Gx
namespace Go.Gx
open Go.Proofs Go.RowKit List
attribute [local irreducible] shaL cutD frontL
def nums (l:List Int):List Value:=l.map fun z=>.int .i64 z
structure Nums (w:World) (v:Value) (l:List Int):Prop where
 sl:Sl w 1 v l.length (nums l)
 rng:∀z∈l,-9223372036854775808≤z∧z≤9223372036854775807
 len:l.length≤9223372036854775807
section
variable{α:Type}{a b c e f:α}{A B C D:List α}
end
section
variable{wd rn rd rb:Int}{x:Stup}{v:Value}{l:List Int}
end
end Go.Gx
namespace Go.Gx
open Go.Proofs List
attribute [local irreducible] shaL cutD frontL decL decE
def slsh (p:(List UInt8)):Nat:=p.count 47
structure Pth (x:Std):Prop where
 z:x.dep=0→x.p=[]
 s:x.dep≠0→x.p≠[]∧slsh x.p+1=x.dep
 l:x.p.length≤65*x.dep
structure PLe (t u:WS):Prop where
 n:t.n≤u.n
 b:t.b≤u.b
 l:∀i∈t.l,i∈u.l
section
variable{s:AS}{rm rm':Rm}
end
def deepL (l:List WI):Nat:=l.foldl (fun m i=>max m (slsh i.p+1)) 0
def rmG:Rm:=rmOf 65536 32 67108864
theorem rmG_ok:rmG.Ok:=⟨by decide,by decide,by decide⟩
end Go.Gx
namespace Go.Gx
open Go.Proofs List
attribute [local irreducible] shaL cutD frontL
section
variable{P:Program}{f:Slots}{w:World}{d:Option Tmp}{ty:TypeId}{pos:String}{af:Array Edge}{x y:Operand}{ats:Array TypeId}{k:IntKind}{a b c:Int}
end
theorem great_spec (w0:World):CP 28 #[] w0 (Ret0 (.agg #[.int .i64 65536,.int .i64 32,.int .i64 67108864]) w0):=by
 have hs:Step [] [] w0 w0:=Step.refl w0
 refine calls (n:=2) Tryz.func28 rfl rfl rfl ?_
 refine sr<|WL.alloc ty30 rfl hs (fun b0 w hs=>?_)
 refine wZ<|sr<|wV (run_build rfl (bld_room _ _ _ _))<|WL.storeAll ty30 rfl rfl ((by rfl)) ((Cells1.of_all rfl)) hs (by rfl) (fun w hs=>?_)
 refine wZ<|CW.ret ?_
 refine fin_cell1 rfl rfl (run_loadVarN ty30 (by rfl) hs.a0) ?_
 exact⟨rfl,hs.clear⟩
def bndV (r:Int×WS):Value:=if r.1=0 then .tuple #[.agg #[.int .i64 (r.2.n:Nat),.int .i64 (deepL r.2.l:Nat),.int .i64 (r.2.b:Nat)],.bool true] else .tuple #[.agg #[.int .i64 0,.int .i64 0,.int .i64 0],.bool false]
section
variable{bw bp br N:Nat}{s:AS}{D R:OL}{d:U8}{vR:Value}{w0:World}
end
end Go.Gx
namespace Go.Gx
open Go.Proofs Go.RowKit List
attribute [local irreducible] shaL cutD frontL
theorem packR_gotN{s:AS}{g:Nat}{r:Int×WS}{of:List (List UInt8)}:packR (s.gotN g) r of=packR s r of:=rfl
theorem partsM_gotN{s:AS}{g:Nat}{m:List (U8×Bool)}:partsM (s.gotN g) m=partsM s m:=rfl
def rN (n:Int) (i:Nat):Int:=if i=1 then n - 1 else n
def rD (n:Int) (i:Nat):Int:=if i=2 then n - 1 else n
def rB (n:Int) (i:Nat):Int:=if i=3 then n - 1 else n
section
variable{α:Type}{a b c e f g:α}{A B C D:List α}
end
section
variable{wd z:Int}{x:Stup}
end
end Go.Gx
namespace Go.Gx
open Go.Proofs List
attribute [local irreducible] shaL cutD frontL
structure LdK (b3 b8 b9 b10 b11 b12 b13 bp:Nat) (rm:Rm) (D:(List (Nat×Obj))):Prop where
 m3:(b3,blk 39 [.pointer (some ⟨bp,0,none⟩)])∈D
 m9:(b9,blk 3 [.int .i64 rm.d])∈D
 m12:(b12,blk 150 [.func (.func 75) #[] #[.pointer (some ⟨b9,0,none⟩),.pointer (some ⟨b10,0,none⟩),.pointer (some ⟨b3,0,none⟩)]])∈D
 m13:(b13,blk 151 [.func (.func 77) #[] #[.pointer (some ⟨b12,0,none⟩),.pointer (some ⟨b8,0,none⟩),.pointer (some ⟨b13,0,none⟩),.pointer (some ⟨b11,0,none⟩)]])∈D
def LdW (b8 b10 b11:Nat) (rm:Rm) (t:WS) (D W:(List (Nat×Obj))):Prop:=
 ∃vL LL T,W=(b8,blk 65 [vL])::(b10,blk 3 [.int .i64 (rm.n - t.n)])::(b11,blk 3 [.int .i64 (rm.b - t.b)])::LL∧OwnSl 155 3 vL t.l.length (rowsW T) LL∧T.map (·.1)=t.l∧∀u∈T,Held D u.2 u.1.x
section
variable{b3 b8 b9 b10 b11 b12 b13 bp N:Nat}{rm:Rm}{s:AS}{t:WS}{x:Std}{D D' W L:OL}{w0:World}
end
section
variable{S:List Nat}{q:Nat×Obj}{P A X:OL}{w w':World}
end
def LdPost (c8 c10 c11 bp:Nat) (rm:Rm) (s:AS) (r:Int×WS) (D W L:(List (Nat×Obj))) (w0:World) (e:Ending) (w':World):Prop:=
 ∃W' L' D',e=.returned (.int .i64 r.1)∧(r.1=0→LdW c8 c10 c11 rm r.2 (D'++D) W')∧PRep bp (s.gotN r.2.g) (D'++D) L'∧Step ((W++L).map (·.1)) (W'++(L'++D')) w0 w'
section
variable{c3 c8 c9 c10 c11 c12 c13 bp N:Nat}{rm:Rm}{s:AS}
end
end Go.Gx
namespace Go.Gx
open Go.Proofs List
attribute [local irreducible] shaL cutD frontL decL decE
abbrev MLe (t u:WS):Prop:=∀p∈t.m,p∈u.m
theorem push_mle (x:Std) (t:WS):MLe t (push x t):=by
 intro p hp
 rw[push_m];exact hp
section
variable {s s':AS}{rm:Rm}
theorem visit_mle (x:Std) (t:WS):MLe t (visit s rm x t).2.2:=by
 unfold visit
 split
 ·exact fun _ h=>h
 ·split
  ·exact fun _ h=>h
  ·split
   ·exact fun _ h=>mem_append_left _ h
   ·split
    ·split
     ·exact fun _ h=>mem_append_left _ h
     ·exact fun _ h=>mem_append_left _ h
    ·split
     ·exact fun _ h=>mem_append_left _ h
     ·exact fun _ h=>mem_append_left _ h
theorem seqS_mle{f:Std→WS→Int×WS} (hf:∀x t,MLe t (f x t).2):∀(l:List Std) (t:WS),MLe t (seqS f l t).2
 | [],t=>fun _ h=>h
 | x::l,t=>by
  rw[seqS]
  split
  ·exact hf x t
  ·exact fun p hp=>seqS_mle hf l _ p (hf x t p hp)
theorem standP_mle:∀(n:Nat) (x:Std) (t:WS),MLe t (standP s rm n x t).2
 | 0,x,t=>fun _ h=>h
 | n+1,x,t=>by
  rw[standP]
  split
  ·exact visit_mle x t
  ·exact fun p hp=>seqS_mle (fun y u p hp=>standP_mle n y (push y u) p (push_mle y u p hp)) _ _ p (visit_mle x t p hp)
theorem visit_met{x:Std}{t:WS} (h:(visit s rm x t).1=0):(x.d,x.dir)∈(visit s rm x t).2.2.m:=by
 by_cases c1:rm.d<x.dep
 ·rw[visit,if_pos c1] at h;cases h
 by_cases c2:rm.n<(t.n:Int)+1
 ·rw[visit,if_neg c1,if_pos c2] at h;cases h
 have hm:∀u:WS,u.m=t.m++[(x.d,x.dir)]→(x.d,x.dir)∈u.m:=fun u h=>by rw[h];simp
 rw[visit,if_neg c1,if_neg c2]
 split
 ·exact hm _ rfl
 ·split
  ·split
   ·exact hm _ rfl
   ·exact hm _ rfl
  ·split
   ·exact hm _ rfl
   ·exact hm _ rfl
theorem visit_same{x:Std}{t:WS} (h:s'.get x.d=s.get x.d):visit s' rm x t=visit s rm x t:=by
 unfold visit
 rw[h]
theorem seqS_same {f f':Std→WS→Int×WS}{T:WS} (hf:∀x t,MLe t (f x t).2):∀(l:List Std) (t:WS),(∀y∈l,∀u,(f y u).1=0→MLe (f y u).2 T→f' y u=f y u)→(seqS f l t).1=0→MLe (seqS f l t).2 T→seqS f' l t=seqS f l t
 | [],t,_,_,_=>rfl
 | y::l,t,h,h0,hT=>by
  by_cases c:(f y t).1≠0
  ·rw[seqS,if_pos c] at h0
   exact absurd h0 c
  rw[seqS,if_neg c] at h0 hT
  have hp:=seqS_mle hf l (f y t).2
  have e:=h y (by simp) t (by simpa using c) (fun p hq=>hT p (hp p hq))
  rw[seqS,seqS,e,if_neg c,if_neg c]
  exact seqS_same hf l _ (fun z hz=>h z (by simp[hz])) h0 hT
theorem standP_same{T:WS} (hg:∀p∈T.m,s'.get p.1=s.get p.1):∀(n:Nat) (x:Std) (t:WS),(standP s rm n x t).1=0→MLe (standP s rm n x t).2 T→standP s' rm n x t=standP s rm n x t
 | 0,x,t,h,_=>by rw[standP] at h;cases h
 | n+1,x,t,h,hT=>by
  have hv:(visit s rm x t).1=0:=by
   by_cases c:(visit s rm x t).1=0
   ·exact c
   ·rw[standP,if_pos c] at h
    exact absurd h c
  rw[standP,if_neg (fun k=>k hv)] at h hT
  have hp:=seqS_mle (fun y u p hp=>standP_mle (s:=s) (rm:=rm) n y (push y u) p (push_mle y u p hp)) (visit s rm x t).2.1 (visit s rm x t).2.2
  have e:=visit_same (s:=s) (s':=s') (rm:=rm) (x:=x) (t:=t) (hg _ (hT _ (hp _ (visit_met hv))))
  rw[standP,standP,e,if_neg (fun k=>k hv),if_neg (fun k=>k hv)]
  exact seqS_same (fun y u p hp=>standP_mle n y (push y u) p (push_mle y u p hp)) _ _ (fun y hy u h1 h2=>standP_same hg n y (push y u) h1 h2) h hT
theorem runs_same{d:U8} (h:(runs s rm [rootS d] ws0).1=0) (hg:∀p∈(runs s rm [rootS d] ws0).2.m,s'.get p.1=s.get p.1):runs s' rm [rootS d] ws0=runs s rm [rootS d] ws0:=by
 rw[runs_root,runs_root] at *
 exact standP_same hg 34 _ _ h fun _ h=>h
end
theorem evAll_get{d:U8}:∀{l:List (List UInt8)}{s:AS},d∉l→(evAll s l).get d=s.get d
 | [],_,_=>rfl
 | e::l,s,h=>by
  rw[mem_cons,not_or] at h
  show(evAll (s.evict e) l).get d=_
  rw[evAll_get h.2,AS.get,AS.get]
  show(match findX d (delX e s.X) with | none=>([],41) | some b=>if frontL b.x s.k=d then (b.x,0) else ([],42))=_
  rw[findX_del h.1]
  rfl
end Go.Gx
namespace Go.Gx
open Go.Proofs List
attribute [local irreducible] shaL cutD frontL
theorem hasL8_spec{v:Value}{l:List (List UInt8)}{d:U8}{w0:World} (hv:Dgs w0 v l) (hd:d.length=32):CP 32 #[v,.agg (u8s d).toArray] w0 (Ret0 (.bool (decide (d∈l))) w0):=by
 have hs:Step [] [] w0 w0:=Step.refl w0
 have hdl:(u8s d).length=32:=by rw[u8s,length_map,hd]
 have ob:=hv.form
 obtain⟨a,c,rfl⟩:=ob
 have hsm:=hv.small
 have ob:∃r,decide (d∈l)=r:=⟨_,rfl⟩
 obtain⟨r,hr⟩:=ob
 rw[hr]
 refine calls (n:=18) Tryz.func32 rfl rfl rfl ?_
 refine sr<|WL.box (cs:=u8s d) rfl rfl rfl hs (fun b3 w hs=>?_)
 refine wA<|wZ<|cq<|sr<|wA<|wZ<|cB<|CW.loop (fun m f w'=>∃i,i≤l.length∧m=l.length - i∧d∉l.take i∧Step [] [(b3,blk 44 (u8s d))] w0 w'∧Holds f [(0,.slice a l.length c),(3,pt b3),(5,.int .i64 (i:Nat))]) (m:=l.length) ?_ ?_
 ·exact⟨0,Nat.zero_le _,rfl,by simp,hs,rfl,rfl,rfl,trivial⟩
 ·rintro m f w ⟨i,hi,rfl,hno,hs,hf⟩
  have ob:=hf.chain
  obtain⟨g,rfl⟩:=ob
  by_cases hlt:i<l.length
  ·have ob:∃e,l[i]?=some e:=⟨_,getElem?_eq_getElem hlt⟩
   obtain⟨e,he⟩:=ob
   have ob:=hv.at he
   obtain⟨b,off,c',hb,hat⟩:=ob
   cases hb
   have hel:=hv.len e (mem_of_getElem? he)
   have hel2:(u8s e).length=32:=by rw[u8s,length_map,hel]
   have htk:l.take (i+1)=l.take i++[e]:=by rw[take_add_one,he];rfl
   refine cq<|sr<|wm<|wm<|wL u35 rfl<|lT<|wZ<|CW.cond rfl (fun h=>?_) (fun h=>?_)
   ·by_cases hed:e=d
    ·refine ck<|cq<|cB<|cq<|CW.quiet mixedP (by kernel_rfl) hs ?_
     refine qm<|qm<|qI u35 ty44 rfl rfl<|qV (fun w hs=>run_loadN ty44 rfl hel2 (hat.step hs.clear (by simp)))<|qV (fun w hs=>run_loadN ty44 rfl hdl hs.a0)<|qV (fun w hs=>run_bT (run_eqDig hel hd rfl rfl) hed)<|QL.nil (fun w hs=>?_)
     refine CW.cond rfl (fun h=>?_) (fun h=>?_)
     ·refine sr<|wA<|wZ<|CW.ret ?_
      refine fin_ret1 rfl ?_
      have hm:d∈l:=hed▸mem_of_getElem? he
      exact⟨congrArg (fun b=>Ending.returned (.bool b)) (by rw[←hr];simp[hm]),hs.clear⟩
     ·cases h
    ·refine ck<|cq<|cB<|cq<|CW.quiet mixedP (by kernel_rfl) hs ?_
     refine qm<|qm<|qI u35 ty44 rfl rfl<|qV (fun w hs=>run_loadN ty44 rfl hel2 (hat.step hs.clear (by simp)))<|qV (fun w hs=>run_loadN ty44 rfl hdl hs.a0)<|qV (fun w hs=>run_bF (run_eqDig hel hd rfl rfl) hed)<|QL.nil (fun w hs=>?_)
     refine CW.cond rfl (fun h=>?_) (fun h=>?_)
     ·cases h
     refine ck<|cr<|wm<|wP ((i+1:Nat):Int)<|wA<|wZ<|(show _∧_ from⟨rfl,_,?_,i+1,hlt,rfl,?_,hs,rfl,rfl,rfl,trivial⟩)
     ·omega
     ·rw[htk,mem_append,mem_singleton]
      exact fun h=>h.elim hno (fun h=>hed h.symm)
   ·cases h
  ·obtain rfl:i=l.length:=by omega
   rw[take_length] at hno
   refine cq<|sr<|wm<|wm<|wL u35 rfl<|lF<|wZ<|CW.cond rfl (fun h=>?_) (fun h=>?_)
   ·cases h
   refine CW.exit<|sr<|wA<|wZ<|CW.ret ?_
   refine fin_ret1 rfl ?_
   exact⟨congrArg (fun b=>Ending.returned (.bool b)) (by rw[←hr];simp[hno]),hs.clear⟩
section
variable{P:Program}{f:Slots}{w:World}{d:Option Tmp}{ty:TypeId}{pos:String}{af:Array Edge}{x y:Operand}{T T':TypeId}
end
end Go.Gx
namespace Go.Gx
open Go.Proofs Go.RowKit List
attribute [local irreducible] shaL cutD frontL
section
variable{α:Type}{a b c e:α}{A B C D Y Z M:List α}
end
def HeldR (D:(List (Nat×Obj))) (v:Value) (T:List (WI×Value)):Prop:=(∃Lt,OwnSl 155 3 v T.length (rowsW T) Lt∧∀p∈Lt,p∈D)∧∀u∈T,Held D u.2 u.1.x
def Trees (s:AS) (D:(List (Nat×Obj))) (ds:List (List UInt8)) (B:List (Value×List (WI×Value))):Prop:=B.length=ds.length∧∀(j:Nat) (t:Value×List (WI×Value)) (d:(List UInt8)),B[j]?=some t→ds[j]?=some d→t.2.map (·.1)=(runs s rmG [rootS d] ws0).2.l∧HeldR D t.1 t.2
section
variable{wd:Int}{x:Stup}{v:Value}{l:List Int}
end
end Go.Gx
namespace Go.Gx
open Go.Proofs List
def blbsP (bs:(List UInt8)):Nat→Nat→Except Int (List (List UInt8)×Nat)
 | 0,p=>.ok ([],p)
 | n+1,p=>
  match bytesP bs p with
  | .error e=>.error e
  | .ok (x,q)=>if 1048576<x.length then .error 2 else
   match blbsP bs n q with
   | .error e=>.error e
   | .ok (l,r)=>.ok (x::l,r)
def pkP (k:Nat) (bs:(List UInt8)):Except Int (List (List UInt8)×Nat):=
 match numP bs 0 with
 | .error e=>.error e
 | .ok (t,p)=>if t=5 then
   match numP bs p with
   | .error e=>.error e
   | .ok (u,p2)=>if u=k then
     match numP bs p2 with
     | .error e=>.error e
     | .ok (n,q)=>if n=0∨65536<n then .error 81 else blbsP bs n q
    else .error 3
  else .error 52
def preB (l:List (List UInt8)):Except Int (List (List UInt8)×Nat)→Except Int (List (List UInt8)×Nat)
 | .error e=>.error e
 | .ok (m,q)=>.ok (l++m,q)
def UpR (b bl bk k:Nat) (bv:Value) (w0:World):Except Int (List (List UInt8)×Nat)→Ending→World→Prop
 | .ok (l,q),e,w'=>∃v B Lv LD,e=.returned (.tuple #[])∧B.map (·.2)=l∧OwnSl 76 1 v B.length (cellsB B) Lv∧BOk LD B∧Step [b,bl,bk] (RdB b bv q::(bl,blk 24 [v])::(bk,blk 3 [.int .i64 (k:Nat)])::(Lv++LD)) w0 w'
 | .error er,e,w'=>∃p v Lv,e=.panicked (pch b)∧v.oneCell'=true∧Step [b,bl,bk] (RF b bv p er::(bl,blk 24 [v])::(bk,blk 3 [.int .i64 (k:Nat)])::Lv) w0 w'
def upP (k:Nat) (bs:(List UInt8)):Int×List (List UInt8):=match pkP k bs with
 | .error e=>(e,[])
 | .ok (l,q)=>if q<bs.length then (13,[]) else (0,l)
def UrR (bl bk k:Nat) (bs:(List UInt8)) (w0:World) (e:Ending) (w':World):Prop:=∃u B Lv G,e=.returned (.int .i64 (upP k bs).1)∧Cell1 u∧((upP k bs).1=0→OwnSl 76 1 u B.length (cellsB B) Lv∧BOk G B∧B.map (·.2)=(upP k bs).2)∧Step [bl,bk] ((bl,blk 24 [u])::(bk,blk 3 [.int .i64 (k:Nat)])::(Lv++G)) w0 w'
end Go.Gx
namespace Go.Gx
open Go.Proofs List
attribute [local irreducible] shaL cutD frontL
theorem lay_some {s s':AS}{d x:U8} (h:s.lay d x=some s'):s'=⟨s.k,s.cap,s.last+1,s.gets,s.puts,insX ⟨d,x,s.last+1⟩ s.X⟩:=by
 unfold AS.lay at h
 split at h
 ·exact(Option.some.inj h).symm
 ·cases h
def digsK (k:Nat) (l:List (List UInt8)):List (List UInt8):=l.map fun x=>frontL x k
def putAll (s:AS) (l:List (List UInt8)):AS:=l.foldl (fun s x=>(s.put x).2.2) s
structure PutOk (k:Nat) (l:List (List UInt8)) (s:AS):Prop where
 ok:s.Ok
 hk:s.k=k
 cap:s.cap=67108864
 few:s.Few l.length
 used:usedX s.X=(l.map fun x=>x.length+32).sum
 has:∀d,s.has d=decide (d∈digsK k l)
 get:∀x∈l,s.get (frontL x k)=(x,0)
 num:s.X.length=l.length
def lastK (k:Nat) (l:List (List UInt8)):(List UInt8):=frontL (l.getLastD []) k
def fitS (k:Nat) (l:List (List UInt8)):AS:=putAll (newS k 67108864) l
def fitB (k:Nat) (l of:List (List UInt8)):Bool:=decide ((digsK k l).Nodup∧(runs (fitS k l) rmG [rootS (lastK k l)] ws0).1=0∧of=digsK k l)
section
variable{v:Value}{B:BL}{k kk:Nat}{gf of:List (List UInt8)}{D:OL}{w0:World}
end
def putRun (t:AS):List (List UInt8)→Int×AS
 | []=>(0,t)
 | x::l=>if (t.put x).2.1≠0 then ((((t.put x).2.1:Nat):Int),(t.put x).2.2) else putRun (t.put x).2.2 l
def unpR (s:AS) (bs:(List UInt8)) (of:List (List UInt8)):(List UInt8)×Int×AS:=
 if 4194304<bs.length then (zD,2,s) else if (upP s.k bs).1≠0 then (zD,(upP s.k bs).1,s) else if fitB s.k (upP s.k bs).2 of=false then (zD,81,s)
 else (if (putRun s (upP s.k bs).2).1=0 then lastK s.k (upP s.k bs).2 else zD,putRun s (upP s.k bs).2)
section
variable{s:AS}{bs:U8}{of:List (List UInt8)}
end
def GoF (k:Nat) (l gf of:List (List UInt8)) (kk:Nat):Prop:=(digsK k l).Nodup→(runs (fitS k l) rmG [rootS (lastK k l)] ws0).1=0→Goes (partsM (fitS k l) (runs (fitS k l) rmG [rootS (lastK k l)] ws0).2.m) [lastK k l] [] [] gf of kk
section
variable{bp N kk:Nat}{s:AS}{D L:OL}{v:Value}{bs:U8}{w0:World}{gf of:List (List UInt8)}
end
def upE (k:Nat) (bs:(List UInt8)):Int:=if 4194304<bs.length then 2 else (upP k bs).1
def RdRes (k:Nat) (bs:(List UInt8)) (w0:World) (e:Ending) (w':World):Prop:=∃u B Lv G,e=.returned (.tuple #[u,.int .i64 (upE k bs)])∧(upE k bs=0→OwnSl 76 1 u B.length (cellsB B) Lv∧BOk G B∧B.map (·.2)=(upP k bs).2)∧Step [] (Lv++G) w0 w'
end Go.Gx
namespace Go.Gx
open Go.Proofs Go.RowKit List
attribute [local irreducible] shaL cutD frontL
def pads (n:Nat):List Value:=List.replicate n (.int .u8 169)
def LendS (s:(List UInt8)):Obj:=blk 5 (u8s s++pads 67)
theorem perm_u1{α:Type}{a c:α}{LR L R D:List α}:((a::(LR++(L++(R++D))))++[c]).Perm ((c::a::LR)++(L++(R++D))):=by
 classical exact perm_iff_count.2 fun x=>by simp only[count_append,count_cons,count_nil];omega
theorem out_hd{S:List Nat}{b:Nat}{o:Obj}{X Y:OL}{w0 w:World} (hs:Step S ((b,o)::X) w0 w) (h:∀p∈Y,p∈X):b∉Y.map (·.1):=by
 have hn:=hs.nodup
 rw[map_cons,nodup_cons] at hn
 intro hb
 have ob:=mem_map.1 hb
 obtain⟨p,hp,hpe⟩:=ob
 exact hn.1 (mem_map.2 ⟨p,h p hp,hpe⟩)
section
variable{wd:Int}{x:Stup}{v:Value}{bs:U8}
end
end Go.Gx
namespace Go.Gx
open Go.Proofs List
attribute [local irreducible] shaL cutD frontL decL decE
section
variable{s:AS}{rm:Rm}{U:U8→Prop}
theorem seqS_in{f:Std→WS→Int×WS} (hf:∀x t,MLe t (f x t).2){T:WS}:∀(l:List Std) (t:WS),(∀y∈l,∀u,(f y u).1=0→MLe (f y u).2 T→(∀p∈u.m,U p.1)→∀p∈(f y u).2.m,U p.1)→(seqS f l t).1=0→MLe (seqS f l t).2 T→(∀p∈t.m,U p.1)→∀p∈(seqS f l t).2.m,U p.1
 | [],t,_,_,_,ht=>ht
 | y::l,t,h,h0,hT,ht=>by
  by_cases c:(f y t).1≠0
  ·rw[seqS,if_pos c] at h0
   exact absurd h0 c
  rw[seqS,if_neg c] at h0 hT⊢
  have hp:=seqS_mle hf l (f y t).2
  exact seqS_in hf l _ (fun z hz=>h z (by simp[hz])) h0 hT (h y (by simp) t (by simpa using c) (fun p hq=>hT p (hp p hq)) ht)
theorem standP_in{T:WS} (hU:∀y,U y→(y,true)∈T.m→∀e∈partsD s y,U e):∀(n:Nat) (x:Std) (t:WS),(standP s rm n x t).1=0→MLe (standP s rm n x t).2 T→U x.d→(∀p∈t.m,U p.1)→∀p∈(standP s rm n x t).2.m,U p.1
 | 0,x,t,h,_,_,_=>by rw[standP] at h;cases h
 | n+1,x,t,h,hT,hx,ht=>by
  have hv:(visit s rm x t).1=0:=by
   by_cases c:(visit s rm x t).1=0
   ·exact c
   ·rw[standP,if_pos c] at h
    exact absurd h c
  rw[standP,if_neg (fun k=>k hv)] at h hT⊢
  have hp:=seqS_mle (fun y u p hp=>standP_mle (s:=s) (rm:=rm) n y (push y u) p (push_mle y u p hp)) (visit s rm x t).2.1 (visit s rm x t).2.2
  have hm:=visit_m hv
  have hxT:(x.d,x.dir)∈T.m:=hT _ (hp _ (visit_met hv))
  have hkid:∀y∈(visit s rm x t).2.1,U y.d:=by
   rcases (visit_ok hv).2.2.2 with⟨hd,_,e⟩ | ⟨_,_,e⟩
   ·intro y hy
    rw[e] at hy
    have ob:=mem_map.1 hy
    obtain⟨z,hz,rfl⟩:=ob
    rw[hd] at hxT
    exact hU _ hx hxT _ (mem_map_of_mem hz)
   ·intro y hy
    rw[e] at hy
    cases hy
  refine seqS_in (fun y u p hp=>standP_mle n y (push y u) p (push_mle y u p hp)) _ _ (fun y hy u h1 h2 hu=>standP_in hU n y (push y u) h1 h2 (hkid y hy) (fun p hp=>hu p (by rw[push_m] at hp;exact hp))) h hT fun p hp=>?_
  rw[hm] at hp
  rcases mem_append.1 hp with hp | hp
  ·exact ht p hp
  ·rw[mem_singleton] at hp
   rw[hp];exact hx
end
section
variable{P:U8→List (List UInt8)}{ds g o g' o':List (List UInt8)}{k:Nat}
theorem Goes.closed (h:Goes P ds g o g' o' k):(∀d∈ds,d∈g')∧∀d∈g',d∈g∨∀x∈P d,x∈g':=by
 induction h with
 | nil g o=>exact⟨(fun d hd=>by cases hd),fun d hd=>.inl hd⟩
 | @skip d ds g o g' o' k hd h ih=>exact⟨fun x hx=>(mem_cons.1 hx).elim (fun e=>by rw[e];exact h.keep _ hd) (ih.1 x),ih.2⟩
 | @go d ds g o g1 o1 g' o' k1 k2 hd h1 h2 i1 i2=>
  have hd1:d∈g1:=h1.keep d (by simp)
  refine⟨fun x hx=>(mem_cons.1 hx).elim (fun e=>by rw[e];exact h2.keep _ hd1) (i2.1 x),fun x hx=>?_⟩
  rcases i2.2 x hx with hx1 | hx1
  ·rcases i1.2 x hx1 with hx2 | hx2
   ·rcases mem_append.1 hx2 with hx2 | hx2
    ·exact .inl hx2
    ·rw[mem_singleton] at hx2
     subst hx2
     exact .inr fun y hy=>h2.keep _ (i1.1 y hy)
   ·exact .inr fun y hy=>h2.keep _ (hx2 y hy)
  ·exact .inr hx1
end
section
variable{s:AS}{d:U8}{t:WS}{gf of:List (List UInt8)}{k:Nat}
theorem goes_met{rm:Rm} (h:runs s rm [rootS d] ws0=(0,t)) (hm:Met s d t.m) (hG:Goes (partsM s t.m) [d] [] [] gf of k):of.Nodup∧(∀x,x∈of↔x∈ordM t.m)∧of.length=(ordM t.m).length:=by
 have hc:=hG.closed
 have ob:=hG.ext
 obtain⟨n,o,hn,ho,hp⟩:=ob
 rw[nil_append] at hn ho
 rw[←hn,←ho] at hp
 have hnd:=hG.nodup nodup_nil
 have hof:of.Nodup:=hp.nodup_iff.2 hnd
 have hsub:=hG.sub hm.sub (fun x hx=>by obtain rfl:=mem_singleton.1 hx;exact mem_of_getElem? hm.head) (fun x hx=>by cases hx)
 rw[runs_root] at h
 have hin:=standP_in (s:=s) (rm:=rm) (U:=fun x=>x∈gf) (T:=t) (fun y hy hym e he=>by
  rcases hc.2 y hy with h1 | h1
  ·cases h1
  ·exact h1 e (by rw[partsM,if_pos hym];exact he)) 34 (rootS d) ws0 (by rw[h]) (by rw[h];exact fun _ h=>h) (hc.1 d (by simp)) (fun p hp=>by cases hp)
 rw[h] at hin
 have hiff:∀x,x∈of↔x∈ordM t.m:=fun x=>by
  rw[hp.mem_iff]
  refine⟨hsub x,fun hx=>?_⟩
  rw[ordM_mem] at hx
  have ob:=mem_map.1 hx
  obtain⟨p,hp,rfl⟩:=ob
  exact hin p hp
 refine⟨hof,hiff,Nat.le_antisymm (nodup_len hof fun x hx=>(hiff x).1 hx) (nodup_len ordM_nodup fun x hx=>(hiff x).2 hx)⟩
end
theorem partsM_same{s t:AS}{m:List (U8×Bool)} (h:∀p∈m,t.get p.1=s.get p.1):partsM t m=partsM s m:=by
 funext d
 unfold partsM
 split
 ·rename_i hd
  have:=h _ hd
  simp only at this
  rw[partsD,partsD,this]
 ·rfl
structure PkOk (s:AS) (d:(List UInt8)) (r:Int×WS) (gf of:List (List UInt8)) (kk:Nat) (l:List (List UInt8)):Prop where
 dig:digsK s.k l=of
 len:l.length=of.length
 small:∀x∈l,x.length≤1048576
 ne:l≠[]
 few:l.length≤65536
 up:upP s.k (packB s.k l)=(0,l)
 last:lastK s.k l=d
 put:PutOk s.k l (fitS s.k l)
 get:∀p∈r.2.m,(fitS s.k l).get p.1=s.get p.1
 same:runs (fitS s.k l) rmG [rootS d] ws0=r
 goF:GoF s.k l gf of kk
 un:unpR (newS s.k 67108864) (packB s.k l) of=(d,0,fitS s.k l)
 num:(fitS s.k l).X.length=(ordM r.2.m).length
 parts:partsM (fitS s.k l) r.2.m=partsM s r.2.m
 pack:packR (fitS s.k l) r of=(packB s.k l,0)
 first:packR s r of=(packB s.k l,0)
theorem findX_of_mem{X:List Blb} (hX:SortedX X){d:U8}{b:Blb} (hb:b∈X) (hd:b.d=d):findX d X=some b:=by
 subst hd
 exact findX_mem hX.nodup hb
theorem findX_ins_ne{b:Blb}{X:List Blb} (h:SortedX X){d:U8}{c:Blb} (hd:b.d≠d) (hf:findX d X=some c):findX d (insX b X)=some c:=by
 have ob:=findX_some hf
 obtain⟨h1,h2⟩:=ob
 refine findX_of_mem (insX_sorted b h) ((insX_perm b h).mem_iff.2 (mem_cons_of_mem _ ?_)) h2
 exact mem_filter.2 ⟨h1,by simp only[decide_eq_true_eq];rw[h2];exact fun e=>hd e.symm⟩
theorem put_cases (s:AS) (y:U8):((s.put y).2.1≠0∧(s.put y).2.2.X=s.X∧(s.put y).1=zD)∨
  ((s.put y).2.1=0∧(s.put y).1=frontL y s.k∧(s.put y).2.2.X=s.X∧∃b,findX (frontL y s.k) s.X=some b∧b.x=y)∨
  ((s.put y).2.1=0∧(s.put y).1=frontL y s.k∧(∀b,findX (frontL y s.k) s.X=some b→frontL b.x s.k≠frontL y s.k)∧∃st,(s.put y).2.2.X=insX ⟨frontL y s.k,y,st⟩ s.X):=by
 have hgo:∀r:U8×Nat×AS,(∀b,findX (frontL y s.k) s.X=some b→frontL b.x s.k≠frontL y s.k)→r=(match ({ s with puts:=s.puts+1 }:AS).lay (frontL y s.k) y with | some s2=>(frontL y s.k,0,s2) | none=>(zD,43,{ s with puts:=s.puts+1 }))→
   (r.2.1≠0∧r.2.2.X=s.X∧r.1=zD)∨(r.2.1=0∧r.1=frontL y s.k∧r.2.2.X=s.X∧∃b,findX (frontL y s.k) s.X=some b∧b.x=y)∨(r.2.1=0∧r.1=frontL y s.k∧(∀b,findX (frontL y s.k) s.X=some b→frontL b.x s.k≠frontL y s.k)∧∃st,r.2.2.X=insX ⟨frontL y s.k,y,st⟩ s.X):=by
  intro r hn hr
  cases hl:({ s with puts:=s.puts+1 }:AS).lay (frontL y s.k) y with
  | none=>rw[hl] at hr;subst hr;exact .inl ⟨by simp,rfl,rfl⟩
  | some s2=>
   rw[hl] at hr
   subst hr
   refine .inr (.inr ⟨rfl,rfl,hn,s.last+1,?_⟩)
   rw[lay_some hl]
 unfold AS.put
 simp only
 by_cases hlong:1048576<y.length
 ·rw[if_pos hlong];exact .inl ⟨by simp,rfl,rfl⟩
 ·rw[if_neg hlong]
  cases hf:findX (frontL y s.k) s.X with
  | none=>rw[hf] at hgo;exact hgo _ (fun b h=>by cases h) rfl
  | some b=>
   rw[hf] at hgo
   simp only
   by_cases hxy:b.x=y
   ·rw[if_pos hxy];exact .inr (.inl ⟨rfl,rfl,rfl,b,rfl,hxy⟩)
   ·rw[if_neg hxy]
    by_cases hw:frontL b.x s.k=frontL y s.k
    ·rw[if_pos hw];exact .inl ⟨by simp,rfl,rfl⟩
    ·rw[if_neg hw]
     exact hgo _ (fun c h=>by obtain rfl:=Option.some.inj h;exact hw) rfl
theorem plant_cases (s:AS) (d y:U8):((s.plant d y).1≠0∧(s.plant d y).2=s)∨((s.plant d y).1=0∧(s.plant d y).2=⟨s.k,s.cap,s.last+1,s.gets,s.puts,insX ⟨d,y,s.last+1⟩ s.X⟩):=by
 unfold AS.plant
 split
 ·exact .inl ⟨by simp,rfl⟩
 ·split
  ·exact .inl ⟨by simp,rfl⟩
  ·cases hl:s.lay d y with
   | none=>exact .inl ⟨by simp,rfl⟩
   | some s2=>exact .inr ⟨rfl,lay_some hl⟩
def Stay (M:List (List UInt8)) (s t:AS):Prop:=t.k=s.k∧∀d∈M,(s.get d).2=0∧t.get d=s.get d
theorem Stay.rfl' {M:List (List UInt8)}{s:AS} (h:∀d∈M,(s.get d).2=0):Stay M s s:=⟨rfl,fun d hd=>⟨h d hd,rfl⟩⟩
theorem get_found{s:AS}{d:U8} (h:(s.get d).2=0):∃b,findX d s.X=some b∧frontL b.x s.k=d:=by
 unfold AS.get at h
 cases hf:findX d s.X with
 | none=>rw[hf] at h;cases h
 | some b=>
  rw[hf] at h
  simp only at h
  split at h
  ·exact⟨b,rfl,by assumption⟩
  ·cases h
theorem get_ins{s t:AS}{d:U8}{b:Blb} (ok:s.Ok) (h:(s.get d).2=0) (hk:t.k=s.k) (hX:t.X=insX b s.X) (hb:b.d≠d):t.get d=s.get d:=by
 have ob:=get_found h
 obtain⟨c,hc,_⟩:=ob
 have h2:=findX_ins_ne ok.sorted hb hc
 unfold AS.get
 rw[hX,h2,hc,hk]
theorem get_same{s t:AS}{d:U8} (hk:t.k=s.k) (hX:t.X=s.X):t.get d=s.get d:=by
 unfold AS.get
 rw[hX,hk]
section
variable{M:List (List UInt8)}{s t:AS}{d y:U8}
theorem Stay.evict (h:Stay M s t) (hd:d∉M):Stay M s (t.evict d):=⟨h.1,fun e he=>⟨(h.2 e he).1,by
 rw[←(h.2 e he).2]
 exact evAll_get (l:=[d]) (by simpa using fun(c:e=d)=>hd (c▸he))⟩⟩
theorem Stay.plant (ok:t.Ok) (h:Stay M s t) (hd:d∉M):Stay M s (t.plant d y).2:=by
 rcases plant_cases t d y with⟨_,e⟩ | ⟨_,e⟩
 ·rw[e];exact h
 ·refine⟨by rw[e];exact h.1,fun c hc=>⟨(h.2 c hc).1,?_⟩⟩
  rw[←(h.2 c hc).2]
  exact get_ins ok (by rw[(h.2 c hc).2];exact(h.2 c hc).1) (by rw[e]) (by rw[e]) (fun k=>hd (by rw[show d=c from k];exact hc))
theorem Stay.put (ok:t.Ok) (h:Stay M s t):Stay M s (t.put y).2.2:=by
 refine⟨(put_k t y).trans h.1,fun c hc=>⟨(h.2 c hc).1,?_⟩⟩
 rw[←(h.2 c hc).2]
 have hg:(t.get c).2=0:=by rw[(h.2 c hc).2];exact(h.2 c hc).1
 rcases put_cases t y with⟨_,e,_⟩ | ⟨_,_,e,_⟩ | ⟨_,_,hn,st,e⟩
 ·exact get_same (put_k t y) e
 ·exact get_same (put_k t y) e
 ·refine get_ins ok hg (put_k t y) e fun k=>?_
  have ob:=get_found hg
  obtain⟨b,hb,hw⟩:=ob
  have k':frontL y t.k=c:=k
  rw[←k'] at hb hw
  exact hn b hb hw
theorem Stay.got (h:Stay M s t) (g:Nat):Stay M s (t.gotN g):=h
theorem Stay.runs{rm:Rm}{m:List (U8×Bool)} (h:Stay (m.map (·.1)) s t) (h0:(runs s rm [rootS d] ws0).1=0) (hm:(Go.Gx.runs s rm [rootS d] ws0).2.m=m):Go.Gx.runs t rm [rootS d] ws0=Go.Gx.runs s rm [rootS d] ws0:=
 runs_same h0 fun p hp=>(h.2 p.1 (mem_map_of_mem (by rw[←hm];exact hp))).2
theorem Stay.parts{m:List (U8×Bool)} (h:Stay (m.map (·.1)) s t):partsM t m=partsM s m:=partsM_same fun p hp=>(h.2 p.1 (mem_map_of_mem hp)).2
theorem Stay.packR{r:Int×WS}{of:List (List UInt8)} (h:Stay M s t) (ho:∀x∈of,x∈M):Go.Gx.packR t r of=Go.Gx.packR s r of:=by
 have e:of.map (fun x=>(t.get x).1)=of.map fun x=>(s.get x).1:=map_congr_left fun x hx=>by rw[(h.2 x (ho x hx)).2]
 rw[Go.Gx.packR,Go.Gx.packR,e,h.1]
end
end Go.Gx
namespace Go.Gx
open Go.Proofs Go.ChangeShapes Go.WideShapes Go.ChangeAt Go.RowKit Go.Deep List
open Go.Proofs.YtplmnkogkfhaiaaGreat (Rows.uptoBulk Rows.uptoBulkAll)
section
variable{H:Type}{enc:TypeId×Value→H}{w:World}{base:Nat}{spare:Nat→Bool}{held:Bool}
theorem open_blobs{v:Value}{d:DataW H}{ps:List MemPlace}{r:Reach}{b0:Nat} (hval:Value.okWide Tryz.prog w r b0 24 v) (h:DataW.Trod enc Tryz.prog w base spare held 24 v d ps):Rows.uptoBulk d≤1048576→∃B:List (Value×U8),Sl w 1 v B.length (B.map fun t=>t.1)∧(∀t∈B,Sl w 1 t.1 t.2.length (u8s t.2)∧Room t.1)∧B.length≤9223372036854775807:=fun hN=>by
 obtain⟨fuel,h⟩:=h
 have ob:=okWide_slice u24 hval
 obtain⟨a0,len,cap,rfl⟩:=ob
 have ob:=open_many (enc:=enc) (w:=w) (base:=base) (spare:=spare) (held:=held) (N:=1048576) (c:=fun t:Value×U8=>[t.1]) (Ok:=fun t=>Sl w 1 t.1 t.2.length (u8s t.2)∧Room t.1) u24 ty76.cellsOf (by decide) (fun _ _=>rfl)
 obtain⟨vB,B,hB,sB,oB,-,hl⟩:=ob
   (fun h hN=>by
    have ob:=trod_bytes h
    obtain⟨v,b,hc,hs,hr,hl⟩:=ob
    exact⟨(v,b),⟨hs,hr⟩,hc⟩) h hN
 have e:Value.slice a0 len cap=vB:=by simpa[Value.cells] using hB
 subst e
 have hf:(B.flatMap fun t=>[t.1])=B.map fun t=>t.1:=by
  clear hB sB oB hl
  induction B with
  | nil=>rfl
  | cons t B ih=>rw[flatMap_cons,ih];rfl
 rw[hf] at sB
 exact⟨B,sB,oB,hl⟩
end
end Go.Gx
namespace Go.Gx
open Go.Proofs Go.RowKit List
attribute [local irreducible] shaL cutD frontL
def u8Z (z:Int):UInt8:=UInt8.ofNat (z % 256).toNat
section
variable{P:Program}{f:Slots}{w:World}{d:Option Tmp}{ty:TypeId}{pos:String}{af:Array Edge}{x y:Operand}{T T':TypeId}{k:IntKind}
theorem run_convM{z:Int}{ds:TypeDesc} (hs:P.underlying T=some ds) (ht:P.underlying T'=some (.int .u8)) (hx:ev f x=.int k z) :
  (execOp (ev f) ⟨d,.convert T T' x,ty,pos,af,none⟩).run P w=.ok (.value (.int .u8 (u8Z z).toNat)) w:=by
 rw[run_convInt hs ht hx]
 congr 3
 have h1:0≤z % 256:=Int.emod_nonneg _ (by decide)
 have h2:z % 256<256:=Int.emod_lt_of_pos _ (by decide)
 have h3:(u8Z z).toNat=(z % 256).toNat:=by
  unfold u8Z
  rw[UInt8.toNat_ofNat']
  exact Nat.mod_eq_of_lt (by omega)
 rw[h3]
 have h4:IntKind.u8.wrap z=z % 256:=by simp[IntKind.wrap,IntKind.signed,IntKind.bits]
 rw[h4]
 omega
end
def BOn (n:Nat) (D:(List (Nat×Obj))) (B:BL):Prop:=∀t∈B,Held D t.1 t.2∧t.2.length≤n
section
variable{α:Type}{b x:α}{L G Z:List α}
end
section
variable{wd z oth:Int}{x y:Stup}{va:Value}{l:List Int}
end
end Go.Gx
namespace Go.Gx
section
variable{P:Program}{ops:Array Oper}{Q:Post}{n:Nat}{rest:List Oper}{f:Slots}{ds:List Deferred}{w w0:World}{ty:TypeId}{pos:String}{af:Array Edge}{d:Nat}{x y:Operand}{T:TypeId}{S:List Nat}{L:OL}
theorem run_append2{agg:Bool}{sz bytes k m:Nat}{zs xs ys:List Value}{E T':TypeId}{v u:Value}{Lv:OL} (ht:P.underlying T=some (.slice E)) (hz':SrcT P T') (hE:Ty P E agg sz bytes zs) (hzl:zs.length=sz) (hb0:0<bytes)
  (hv:OwnSl E sz v k xs Lv) (hs:Step S (Lv++L) w0 w) (hul:(Builtin.lenOf u).run P w=.ok m w) (hu:(Builtin.firstCells sz m u).run P w=.ok ys.toArray w) (hud:(Builtin.firstCells sz m u).run P w.drew=.ok ys.toArray w.drew) (hly:ys.length=m*sz) (hc1:Cells1 ys) (hroom:(k+m)*bytes≤140737488355328) (hm:0<m) :
  ∃v' w',(Builtin.append_ #[T,T'] ty #[v,u]).run P w=.ok v' w'∧((∃b cap more more',v=.slice (some ⟨b,0,none⟩) k cap∧v'=.slice (some ⟨b,0,none⟩) (k+m) cap∧Lv=[(b,blk E (xs++more))]∧(xs++ys++more').length=cap*sz∧Step S ((b,blk E (xs++ys++more'))::L) w0 w')∨
   (∃Lv',OwnSl E sz v' (k+m) (xs++ys) Lv'∧Step S (Lv'++(Lv++L)) w0 w')):=by
 have hsl:=hv.sl hs
 obtain⟨hl,hcase⟩:=hv
 obtain⟨a,cap,rfl⟩:∃a cap,v=.slice a k cap:=by
  rcases hcase with⟨rfl,rfl,rfl⟩ | ⟨b,cap,more,rfl,rfl,hcap⟩ <;> exact⟨_,_,rfl⟩
 by_cases hfit:k+m≤cap
 ·rcases hcase with⟨h1,rfl,rfl⟩ | ⟨b,cap',more,h1,rfl,hcap⟩
  ·injection h1 with h1 h2 h3
   omega
  ·injection h1 with h1 h2 h3
   subst h1;subst h3
   have hlm:(xs++more).length=xs.length+more.length:=by simp
   have hle:ys.length≤more.length:=by
    have:(k+m)*sz≤cap*sz:=Nat.mul_le_mul_right _ hfit
    rw[Nat.add_mul] at this
    omega
   have hst:=run_storeCells (P:=P) ys 0 (k*sz) b E (xs++more) w hs.hd (by rw[hlm];omega) hc1
   refine⟨.slice (some ⟨b,0,none⟩) (k+m) cap,setRow w b (k*sz+0) ys,?_,.inl ⟨b,cap,more,more.drop ys.length,rfl,rfl,rfl,?_,?_⟩⟩
   ·rw[run_append_in ht hz' hE hul hu hfit,hst]
    rfl
   ·simp only[List.length_append,List.length_drop] at hcap⊢
    omega
   ·have:=Step.row ys (k*sz) (xs++more) w hs (by rw[hlm];omega)
    rw[←hl,splice_end xs more ys hle] at this
    rw[Nat.add_zero,←hl]
    exact this
 ·have hle:k+m≤grownCap w (k+m) cap E:=by unfold grownCap Question.cut;exact Nat.le_add_right _ _
  refine⟨_,_,run_append_new ht hz' hE hb0 hul hud (run_firstCells_drew hsl) (by omega) hroom,.inr ⟨[(w.heap.size,_)],⟨by simp[hl,hly,Nat.add_mul],.inr ⟨_,_,_,rfl,rfl,?_⟩⟩,hs.drew.alloc _⟩⟩
  simp only[List.length_append,List.length_flatten,List.map_replicate,List.sum_replicate_nat,hl,hly,hzl,←Nat.add_mul]
  congr 1
  omega
def Tw (E:TypeId) (sz:Nat) (v u:Value) (n j:Nat) (ms gs:List Value) (L:(List (Nat×Obj))):Prop:=
 ms.length=n*sz∧gs.length=j*sz∧
 ((∃b cap room,v=.slice (some ⟨b,0,none⟩) n cap∧u=.slice (some ⟨b,0,none⟩) (n+j) cap∧L=[(b,blk E (ms++gs++room))]∧(ms++gs++room).length=cap*sz)∨
  (∃Lo Lu,L=Lo++Lu∧OwnSl E sz v n ms Lo∧OwnSl E sz u (n+j) (ms++gs) Lu))
theorem Tw.start{E sz:Nat}{v:Value}{n:Nat}{ms:List Value} (h:OwnSl E sz v n ms L):Tw E sz v v n 0 ms [] L:=by
 obtain⟨hl,⟨rfl,rfl,rfl⟩ | ⟨b,cap,more,rfl,rfl,hc⟩⟩:=h
 ·exact⟨hl,by simp,.inr ⟨[],[],rfl,⟨hl,.inl ⟨rfl,rfl,rfl⟩⟩,⟨by simpa using hl,.inl ⟨rfl,rfl,rfl⟩⟩⟩⟩
 ·exact⟨hl,by simp,.inl ⟨b,cap,more,rfl,rfl,by simp,by simpa using hc⟩⟩
theorem Tw.left{E sz:Nat}{v u:Value}{n j:Nat}{ms gs:List Value} (h:Tw E sz v u n j ms gs L) (hw:∀p∈L,w.heap[p.1]?=some p.2):Sl w sz v n ms:=by
 obtain⟨h1,h2,⟨b,cap,room,rfl,rfl,rfl,hc⟩ | ⟨Lo,Lu,rfl,ho,hu⟩⟩:=h
 ·have:=At.of_blk (hw (b,blk E (ms++gs++room)) (by simp))
  rw[List.append_assoc] at this
  exact .mk h1 this.left
 ·exact ho.slH fun p hp=>hw p (by simp[hp])
theorem Tw.right{E sz:Nat}{v u:Value}{n j:Nat}{ms gs:List Value} (h:Tw E sz v u n j ms gs L) (hw:∀p∈L,w.heap[p.1]?=some p.2):Sl w sz u (n+j) (ms++gs):=by
 obtain⟨h1,h2,⟨b,cap,room,rfl,rfl,rfl,hc⟩ | ⟨Lo,Lu,rfl,ho,hu⟩⟩:=h
 ·exact .mk (by rw[List.length_append,h1,h2,Nat.add_mul]) (At.of_blk (hw (b,blk E (ms++gs++room)) (by simp))).left
 ·exact hu.slH fun p hp=>hw p (by simp[hp])
theorem Tw.formR{E sz:Nat}{v u:Value}{n j:Nat}{ms gs:List Value} (h:Tw E sz v u n j ms gs L):∃a c,u=.slice a (n+j) c:=by
 obtain⟨h1,h2,⟨b,cap,room,rfl,rfl,rfl,hc⟩ | ⟨Lo,Lu,rfl,ho,hu⟩⟩:=h
 ·exact⟨_,_,rfl⟩
 ·exact hu.form
theorem Tw.oneR{E sz:Nat}{v u:Value}{n j:Nat}{ms gs:List Value} (h:Tw E sz v u n j ms gs L):u.oneCell'=true:=by
 have ob:=h.formR
 obtain⟨a,c,rfl⟩:=ob
 rfl
theorem WL.appendTw{agg:Bool}{sz bytes k j m:Nat}{zs ms gs ys:List Value}{E T':TypeId}{v u e:Value}{L1:OL} (ht:P.underlying T=some (.slice E)) (ht':P.underlying T'=some (.slice E)) (hE:Ty P E agg sz bytes zs) (hzl:zs.length=sz) (hb0:0<bytes)
  (hx:ev f x=u) (hy:ev f y=e) (hv:Tw E sz v u k j ms gs L1) (hs:Step S (L1++L) w0 w) (hu:Sl w sz e m ys) (hm:0<m) (hc1:Cells1 ys) (hroom:(k+j+m)*bytes≤140737488355328) (hd:Nat.blt d n=true)
  (h:∀u' L1' w',Tw E sz v u' k (j+m) ms (gs++ys) L1'→Step S (L1'++L) w0 w'→WL P ops Q n rest (upd f d u') ds w') :
  WL P ops Q n (⟨some d,.call { callee:=.builtin .append,args:=#[x,y],argTypes:=#[T,T'] },ty,pos,af,none⟩::rest) f ds w:=by
 have hly:=hu.1
 obtain⟨h1,h2,⟨b,cap,room,rfl,rfl,rfl,hc⟩ | ⟨Lo,Lu,rfl,ho,hu2⟩⟩:=hv
 ·have hown:OwnSl E sz (.slice (some ⟨b,0,none⟩) (k+j) cap) (k+j) (ms++gs) [(b,blk E (ms++gs++room))]:=⟨by rw[List.length_append,h1,h2,Nat.add_mul],.inr ⟨b,cap,room,rfl,rfl,hc⟩⟩
  have ob:=run_append2 (ty:=ty) ht (.inl ⟨E,ht'⟩) hE hzl hb0 hown hs (run_lenOf hu) (run_firstCells hu) (run_firstCells_drew hu) hu.1 hc1 hroom hm
  obtain⟨v',w',hr,hcase⟩:=ob
  have hrun:(execOp (ev f) ⟨some d,.call { callee:=.builtin .append,args:=#[x,y],argTypes:=#[T,T'] },ty,pos,af,none⟩).run P w=.ok (.value v') w':=by
   simp[execOp,hx,hy,resolve,invoke,builtin,hr]
  rcases hcase with⟨b',cap',more,more',e1,rfl,e3,e4,hst⟩ | ⟨Lv',hv',hst⟩
  ·obtain⟨rfl,rfl⟩:b=b'∧cap=cap':=by
    injection e1 with e1 _ e2
    injection e1 with e1
    injection e1 with e1
    exact⟨e1,e2⟩
   refine WL.val hd hrun (h _ [(b,blk E (ms++(gs++ys)++more'))] w' ⟨h1,by rw[List.length_append,h2,hly,Nat.add_mul],.inl ⟨b,cap,more',rfl,by rw[Nat.add_assoc],rfl,by rw[←e4];simp[List.append_assoc]⟩⟩ ?_)
   simpa[List.append_assoc] using hst
  ·refine WL.val hd hrun (h _ ([(b,blk E (ms++gs++room))]++Lv') w' ⟨h1,by rw[List.length_append,h2,hly,Nat.add_mul],.inr ⟨[(b,blk E (ms++gs++room))],Lv',rfl,⟨h1,.inr ⟨b,cap,gs++room,rfl,by rw[List.append_assoc],by rw[←hc,List.append_assoc]⟩⟩,?_⟩⟩ ?_)
   ·rw[←Nat.add_assoc,←List.append_assoc]
    exact hv'
   ·refine hst.perm ?_
    rw[List.append_assoc]
    exact List.perm_append_comm_assoc _ _ _
 ·have hs2:Step S (Lu++(Lo++L)) w0 w:=hs.perm (by
   rw[List.append_assoc]
   exact List.perm_append_comm_assoc _ _ _)
  have ob:=run_append2 (ty:=ty) ht (.inl ⟨E,ht'⟩) hE hzl hb0 hu2 hs2 (run_lenOf hu) (run_firstCells hu) (run_firstCells_drew hu) hu.1 hc1 hroom hm
  obtain⟨v',w',hr,hcase⟩:=ob
  have hrun:(execOp (ev f) ⟨some d,.call { callee:=.builtin .append,args:=#[x,y],argTypes:=#[T,T'] },ty,pos,af,none⟩).run P w=.ok (.value v') w':=by
   simp[execOp,hx,hy,resolve,invoke,builtin,hr]
  have fin:∀Lv',OwnSl E sz v' (k+j+m) (ms++gs++ys) Lv'→Step S (Lv'++(Lo++L)) w0 w'→WL P ops Q n rest (upd f d v') ds w':=fun Lv' hv' hst=>by
   refine h _ (Lo++Lv') w' ⟨h1,by rw[List.length_append,h2,hly,Nat.add_mul],.inr ⟨Lo,Lv',rfl,ho,?_⟩⟩ ?_
   ·rw[←Nat.add_assoc,←List.append_assoc]
    exact hv'
   ·refine hst.perm ?_
    rw[List.append_assoc]
    exact List.perm_append_comm_assoc _ _ _
  rcases hcase with⟨b',cap',more,more',e1,rfl,e3,e4,hst⟩ | ⟨Lv',hv',hst⟩
  ·exact WL.val hd hrun (fin [(b',blk E (ms++gs++ys++more'))] ⟨by rw[List.length_append,List.length_append,h1,h2,hly,Nat.add_mul,Nat.add_mul],.inr ⟨b',cap',more',rfl,rfl,e4⟩⟩ hst)
  ·refine WL.val hd hrun (fin Lv' hv' ?_)
   have h3:Step S (Lu++(Lv'++(Lo++L))) w0 w':=hst.perm (List.perm_append_comm_assoc _ _ _)
   exact Step.dropL h3
end
section
variable{Ls:Nat→OL}{A B X:OL}{i N:Nat}{S:List Nat}{w0 w:World}
theorem flatMap_congr' {α β:Type}{f g:α→List β}:∀{l:List α},(∀a∈l,f a=g a)→l.flatMap f=l.flatMap g
 | [],_=>rfl
 | a::l,h=>by
  rw[List.flatMap_cons,List.flatMap_cons,h a (by simp),flatMap_congr' fun b hb=>h b (by simp[hb])]
def allL (Ls:Nat→(List (Nat×Obj))) (N:Nat):(List (Nat×Obj)):=(List.range N).flatMap Ls
def othL (Ls:Nat→(List (Nat×Obj))) (i N:Nat):(List (Nat×Obj)):=((List.range N).filter (· != i)).flatMap Ls
def putL (Ls:Nat→(List (Nat×Obj))) (i:Nat) (X:(List (Nat×Obj))) (k:Nat):(List (Nat×Obj)):=if k=i then X else Ls k
theorem allL_perm (h:i<N):(allL Ls N).Perm (Ls i++othL Ls i N):=by
 have h1:(List.range N).Perm (i::(List.range N).erase i):=List.perm_cons_erase (by simpa using h)
 rw[List.Nodup.erase_eq_filter List.nodup_range] at h1
 exact h1.flatMap_right Ls
theorem othL_put:othL (putL Ls i X) i N=othL Ls i N:=by
 unfold othL
 apply flatMap_congr'
 intro k hk
 have:k≠i:=by simpa using(List.mem_filter.1 hk).2
 simp[putL,this]
theorem allL_mem{p:Nat×Obj} (h:i<N) (hp:p∈Ls i):p∈allL Ls N:=List.mem_flatMap.2 ⟨i,by simpa using h,hp⟩
theorem Step.openL (h:i<N) (hs:Step S (A++(allL Ls N++B)) w0 w):Step S (Ls i++(A++(othL Ls i N++B))) w0 w:=hs.perm (by
 have h1:=((allL_perm (Ls:=Ls) h).append_right B).append_left A
 have h2:(A++(Ls i++othL Ls i N++B)).Perm (Ls i++(A++(othL Ls i N++B))):=by
  rw[List.append_assoc]
  exact List.perm_append_comm_assoc _ _ _
 exact h1.trans h2)
theorem Step.shutL (h:i<N) (hs:Step S (X++(A++(othL Ls i N++B))) w0 w):Step S (A++(allL (putL Ls i X) N++B)) w0 w:=hs.perm (by
 have h0:putL Ls i X i=X:=by simp[putL]
 have h1:=((allL_perm (Ls:=putL Ls i X) h).append_right B).append_left A
 rw[h0,othL_put] at h1
 have h2:(A++(X++othL Ls i N++B)).Perm (X++(A++(othL Ls i N++B))):=by
  rw[List.append_assoc]
  exact List.perm_append_comm_assoc _ _ _
 exact(h1.trans h2).symm)
end
end Go.Gx
namespace Go.Gx
open Go.Proofs List
section
variable{Ls:Nat→OL}{A X:OL}{i N:Nat}{S:List Nat}{w0 w:World}
theorem Step.openA (h:i<N) (hs:Step S (A++allL Ls N) w0 w):Step S (Ls i++(A++othL Ls i N)) w0 w:=by
 have:=Step.openL (B:=[]) h (by rw[append_nil];exact hs)
 rwa [append_nil] at this
theorem Step.shutA (h:i<N) (hs:Step S (X++(A++othL Ls i N)) w0 w):Step S (A++allL (putL Ls i X) N) w0 w:=by
 have:=Step.shutL (B:=[]) h (by rw[append_nil];exact hs)
 rwa [append_nil] at this
end
def gD (k:Nat):(List UInt8):=UInt8.ofNat k::UInt8.ofNat (k / 256 ^ 1)::List.replicate 30 0
def gA (k:Nat):(List UInt8):=UInt8.ofNat k::List.replicate 31 0
def gE (i k:Nat):Ent:=⟨[],5000+(i:Int),gD k⟩
def gF (i k:Nat):Ent:=⟨[],-10 - (i:Int),gA k⟩
def gs1 (i n:Nat):List Ent:=(List.range n).map (gE i)
def gs2 (i n:Nat):List Ent:=(List.range n).map (gF i)
theorem set_map{us:Nat→Value}{room:List Value}{i N:Nat}{u:Value} (h:i<N):((List.range N).map us++room).set (0+i*1) u=(List.range N).map (fun q=>if q=i then u else us q)++room:=by
 rw[Nat.zero_add,Nat.mul_one,set_append_left _ _ (by simpa using h)]
 congr 1
 apply ext_getElem?
 intro q
 by_cases hq:q<N
 ·rw[getElem?_set,getElem?_map,getElem?_map,getElem?_range hq]
  by_cases hqi:i=q
  ·subst hqi
   simp[hq]
  ·simp[hqi,Ne.symm hqi]
 ·rw[getElem?_eq_none (by simp;omega),getElem?_eq_none (by simp;omega)]
theorem map_get{us:Nat→Value}{room:List Value}{i N:Nat} (h:i<N):((List.range N).map us++room)[0+i*1]?=some (us i):=by
 rw[Nat.zero_add,Nat.mul_one,getElem?_append_left (by simpa using h),getElem?_map,getElem?_range h]
 rfl
theorem Sl.baseB{w:World}{sz n:Nat}{v:Value}{cs:List Value} (h:Sl w sz v n cs) (h0:0<n):∃b off c,v=.slice (some ⟨b,off,none⟩) n c:=by
 obtain⟨hl,⟨a,c,hc,h1⟩ | ⟨b,off,c,hc,hat⟩⟩:=h
 ·omega
 ·exact⟨b,off,c,hc⟩
theorem Sl.atB{w:World}{sz n b off c:Nat}{cs:List Value} (h:Sl w sz (.slice (some ⟨b,off,none⟩) n c) n cs) (h0:0<n):At w b off cs:=by
 obtain⟨hl,⟨a,c,hc,h1⟩ | ⟨b',off',c',hc,hat⟩⟩:=h
 ·omega
 ·injection hc with e1 e2 e3
  injection e1 with e1
  injection e1 with e1 e4
  subst e1 e4
  exact hat
theorem Step.dropX{S:List Nat}{p:Nat×Obj}{A B:OL}{w0 w:World} (h:Step S (A++p::B) w0 w):Step S (A++B) w0 w:=(h.perm perm_middle).tail
section
variable{N:Nat}{bA oA cA:Nat}{vs:Nat→Value}{ns:Nat→Nat}{xs:Nat→List Value}{Ls:Nat→OL}{w0:World}
end
theorem wrap8_nat (n:Nat):IntKind.u8.wrap (n:Int)=((n % 256:Nat):Int):=by
 unfold IntKind.wrap
 simp only[IntKind.bits,IntKind.signed,Bool.false_and,Bool.false_eq_true,if_false]
 have:(2:Int) ^ 8=((256:Nat):Int):=by decide
 rw[this,Int.natCast_emod]
section
variable{P:Program}{f:Slots}{w:World}{d:Option Tmp}{ty:TypeId}{pos:String}{af:Array Edge}{x y:Operand}{T T':TypeId}{a b:UInt8}
theorem run_mul8 (hx:ev f x=.int .u8 a.toNat) (hy:ev f y=.int .u8 b.toNat):(execOp (ev f) ⟨d,.binOp .mul T x y T',ty,pos,af,none⟩).run P w=.ok (.value (.int .u8 (a*b).toNat)) w:=by
 rw[run_mulW hx hy]
 have e:((a.toNat:Int)*(b.toNat:Int))=((a.toNat*b.toNat:Nat):Int):=by rw[Int.natCast_mul]
 rw[e,wrap8_nat,UInt8.toNat_mul]
theorem run_sub8 (hx:ev f x=.int .u8 a.toNat) (hy:ev f y=.int .u8 b.toNat):(execOp (ev f) ⟨d,.binOp .sub T x y T',ty,pos,af,none⟩).run P w=.ok (.value (.int .u8 (a - b).toNat)) w:=by
 rw[run_subW hx hy]
 have hb:=b.toNat_lt
 have h1:IntKind.u8.wrap ((a.toNat:Int) - (b.toNat:Int))=IntKind.u8.wrap (((256 - b.toNat+a.toNat:Nat):Nat):Int):=by
  unfold IntKind.wrap
  simp only[IntKind.bits,IntKind.signed,Bool.false_and,Bool.false_eq_true,if_false]
  have:(2:Int) ^ 8=256:=by decide
  rw[this]
  omega
 rw[h1,wrap8_nat,UInt8.toNat_sub]
theorem run_xor8 (hx:ev f x=.int .u8 a.toNat) (hy:ev f y=.int .u8 b.toNat):(execOp (ev f) ⟨d,.binOp .xor T x y T',ty,pos,af,none⟩).run P w=.ok (.value (.int .u8 (a ^^^ b).toNat)) w:=by
 have ha:BitVec.ofInt 8 ((a.toNat:Nat):Int)=a.toBitVec:=by
  rw[BitVec.ofInt_natCast]
  simp
 have hb:BitVec.ofInt 8 ((b.toNat:Nat):Int)=b.toBitVec:=by
  rw[BitVec.ofInt_natCast]
  simp
 have hl:=wrap8_nat (a ^^^ b).toNat
 rw[Nat.mod_eq_of_lt (UInt8.toNat_lt _)] at hl
 simp[execOp,hx,hy,go_sem,Op.intBits,IntKind.bits,ha,hb]
 have hl2:IntKind.u8.wrap (((a.toBitVec ^^^ b.toBitVec).toNat:Nat):Int)=((a.toNat ^^^ b.toNat:Nat):Int):=by
  rw[show(a.toBitVec ^^^ b.toBitVec).toNat=a.toNat ^^^ b.toNat from BitVec.toNat_xor _ _]
  simpa using hl
 exact hl2
end
def m1 (i k:Nat):UInt8:=(UInt8.ofNat i ^^^ UInt8.ofNat (i / 256 ^ 1)*7) ^^^ UInt8.ofNat k*3
def m2 (i k:Nat):UInt8:=(255 - UInt8.ofNat i) ^^^ UInt8.ofNat k*5
def gb1 (i n:Nat):(List UInt8):=(List.range n).map (m1 i)
def gb2 (i n:Nat):(List UInt8):=(List.range n).map (m2 i)
theorem gb1_len (i n:Nat):(gb1 i n).length=n:=by simp[gb1]
theorem gb1_rows (i n:Nat):(u8s (gb1 i n)).length=n*1:=by simp[u8s,gb1]
theorem gb1_succ (i n:Nat):u8s (gb1 i (n+1))=u8s (gb1 i n)++[.int .u8 (m1 i n).toNat]:=by simp[gb1,u8s,range_succ]
theorem gb2_succ (i n:Nat):u8s (gb2 i (n+1))=u8s (gb2 i n)++[.int .u8 (m2 i n).toNat]:=by simp[gb2,u8s,range_succ]
theorem gb_set{i k:Nat}{Z more:List Value} (hZ:1≤Z.length):(u8s (gb1 i k)++(Z++more)).set (0+k*1) (.int .u8 (m1 i k).toNat)=u8s (gb1 i (k+1))++(Z.drop 1++more):=by
 have hl:(u8s (gb1 i k)).length=k:=by simp[u8s,gb1]
 match Z,hZ with
 | z::Z,_=>
  rw[Nat.zero_add,Nat.mul_one,set_append_right _ _ (by rw[hl];exact Nat.le_refl _),hl,Nat.sub_self,gb1_succ]
  simp
theorem At.u8q{w:World}{b off:Nat}{l:U8}{x:UInt8}{k:Nat} (ha:At w b off (u8s l)) (hk:l[k]?=some x):w.cell? ⟨b,off+k*1,none⟩=some (.int .u8 x.toNat):=by
 rw[Nat.mul_one]
 exact ha.cell (by simp[u8s,hk])
theorem gb1_get{i n k:Nat} (h:k<n):(gb1 i n)[k]?=some (m1 i k):=by rw[gb1,getElem?_map,getElem?_range h];rfl
theorem gb2_get{i n k:Nat} (h:k<n):(gb2 i n)[k]?=some (m2 i k):=by rw[gb2,getElem?_map,getElem?_range h];rfl
section
variable{N:Nat}{bA oA cA:Nat}{vs:Nat→Value}{ns:Nat→Nat}{xs:Nat→List Value}{Ls:Nat→OL}{w0:World}
set_option maxHeartbeats 8000000 in
theorem grownB_spec (hN:N≤1000) (hN0:0<N) (ha:At w0 bA oA ((List.range N).map vs)) (hO:∀i,i<N→OwnSl 5 1 (vs i) (ns i) (xs i) (Ls i)) (hn:∀i,i<N→ns i≤5000000) (hw:Step ((allL Ls N).map (·.1)) (allL Ls N) w0 w0) (hbA:bA∉(allL Ls N).map (·.1)) :
  CP 37 #[.slice (some ⟨bA,oA,none⟩) N cA] w0 fun e w'=>e=.returned (.bool true)∧Step ((allL Ls N).map (·.1)) [] w0 w':=by
 have hs:Step ((allL Ls N).map (·.1)) (allL Ls N) w0 w0:=hw
 have ob:∃S,(allL Ls N).map (·.1)=S:=⟨_,rfl⟩
 obtain⟨S,hS⟩:=ob
 rw[hS] at hs hbA⊢
 have hvl:((List.range N).map vs).length=N:=by simp
 have hcell:∀{i:Nat}{X:OL}{w:World},i<N→Step S X w0 w→w.cell? ⟨bA,oA+i*1,none⟩=some (vs i):=fun {i X w} hi hs=>by
  rw[Nat.mul_one]
  exact(ha.step hs hbA).cell (by rw[getElem?_map,getElem?_range hi];rfl)
 refine calls (n:=138) Tryz.func37 rfl rfl rfl ?_
 refine sr<|wA<|wZ<|CW.seqM (fun f w=>∃Lc:Nat→OL,(∀q,q<N→OwnSl 5 1 (vs q) (ns q) (u8s (gb1 q (ns q))) (Lc q))∧Step S (allL Lc N) w0 w∧Holds f [(0,.slice (some ⟨bA,oA,none⟩) N cA)]) ?_ ?_
 ·refine sr<|wA<|wZ<|cB<|CW.loop (fun m f w'=>∃(i:Nat) (Lc:Nat→OL) (ys:Nat→List Value),i≤N∧m=N - i∧(∀q,q<i→ys q=u8s (gb1 q (ns q)))∧(∀q,q<N→OwnSl 5 1 (vs q) (ns q) (ys q) (Lc q))∧Step S (allL Lc N) w0 w'∧Holds f [(0,.slice (some ⟨bA,oA,none⟩) N cA),(3,.int .i64 (i:Nat))]) (m:=N) ?_ ?_
  ·exact⟨0,Ls,xs,Nat.zero_le _,rfl,fun q hq=>(by omega),hO,hs,rfl,rfl,trivial⟩
  ·rintro m f w ⟨i,Lc,ys,hi,rfl,hy,ho,hs,hf⟩
   have ob:=hf.chain
   obtain⟨g,rfl⟩:=ob
   by_cases hlt:i<N
   ·refine cq<|sr<|wm<|wm<|wL u24 rfl<|lT<|wZ<|CW.cond rfl (fun h=>?_) (fun h=>?_)
    ·have hoi:=ho i hlt
     have hni:=hn i hlt
     have ob:=hoi.form
     obtain⟨ai,ci,hvi⟩:=ob
     have hvc:∀{X:OL}{w:World},Step S X w0 w→w.cell? ⟨bA,oA+i*1,none⟩=some (.slice ai (ns i) ci):=fun hs=>(hcell hlt hs).trans (congrArg some hvi)
     refine ck<|CW.seqM (fun f w=>∃L',OwnSl 5 1 (vs i) (ns i) (u8s (gb1 i (ns i))) L'∧Step S (L'++othL Lc i N) w0 w∧Holds f [(0,.slice (some ⟨bA,oA,none⟩) N cA),(3,.int .i64 (i:Nat))]) ?_ ?_
     ·have hop:Step S (Lc i++othL Lc i N) w0 w:=Step.openA (A:=[]) hlt hs
      clear hs
      have hs:=hop
      by_cases h0:ns i=0
      ·refine cB<|sr<|wA<|wZ<|cB<|CW.loop (fun m f w'=>m=0∧Step S (Lc i++othL Lc i N) w0 w'∧Holds f [(0,.slice (some ⟨bA,oA,none⟩) N cA),(3,.int .i64 (i:Nat)),(4,.int .i64 0)]) (m:=0) ?_ ?_
       ·exact⟨rfl,hs,rfl,rfl,rfl,trivial⟩
       ·rintro m f w ⟨rfl,hs,hf⟩
        have ob:=hf.chain
        obtain⟨g,rfl⟩:=ob
        refine cq<|sr<|wm<|wm<|wm<|wI u24 ty76 rfl rfl<|wl ty76 rfl ((hvc hs))<|wL u76 rfl<|lF<|wZ<|cF rfl<|CW.exit<|⟨rfl,Lc i,?_,hs,rfl,rfl,trivial⟩
        have e1:=hoi.1
        rw[h0,Nat.zero_mul] at e1
        have e2:ys i=u8s (gb1 i (ns i)):=by rw[eq_nil_of_length_eq_zero e1,h0];rfl
        rw[←e2]
        exact hoi
      ·have ob:=hoi.some1 (by omega)
       obtain⟨b,cap,more,hvb,hLb,hcap⟩:=ob
       have hyl:=hoi.1
       rw[hLb] at hs
       have hvb':∀{X:OL}{w:World},Step S X w0 w→w.cell? ⟨bA,oA+i*1,none⟩=some (.slice (some ⟨b,0,none⟩) (ns i) cap):=fun hs=>(hcell hlt hs).trans (congrArg some hvb)
       refine cB<|sr<|wA<|wZ<|cB<|CW.loop (fun m f w'=>∃(k:Nat) (Z:List Value),k≤ns i∧m=ns i - k∧Z.length=(ns i - k)*1∧Step S ((b,blk 5 (u8s (gb1 i k)++(Z++more)))::othL Lc i N) w0 w'∧Holds f [(0,.slice (some ⟨bA,oA,none⟩) N cA),(3,.int .i64 (i:Nat)),(4,.int .i64 (k:Nat))]) (m:=ns i) ?_ ?_
       ·exact⟨0,ys i,Nat.zero_le _,rfl,hyl,hs,rfl,rfl,rfl,trivial⟩
       ·rintro m f w ⟨k,Z,hk,rfl,hZ,hs,hf⟩
        have ob:=hf.chain
        obtain⟨g,rfl⟩:=ob
        by_cases hkl:k<ns i
        ·have hgl:=gb1_rows i k
         have hbl:(u8s (gb1 i k)++(Z++more)).length=k*1+(ns i - k)*1+more.length:=by rw[length_append,length_append,hgl,hZ];omega
         refine cq<|sr<|wm<|wm<|wm<|wI u24 ty76 rfl rfl<|wl ty76 rfl ((hvb' hs))<|wL u76 rfl<|lT<|wZ<|CW.cond rfl (fun h=>?_) (fun h=>?_)
         ·refine ck<|cq<|cB<|cr<|wm<|wm<|wI u24 ty76 rfl rfl<|wl ty76 rfl ((hvb' hs))<|wm<|wm<|wV (run_convU8 u3 u5 rfl)<|wm<|wV (run_shrN (j:=1) rfl rfl (by decide))<|wV (run_convU8 u3 u5 rfl)<|wV (run_mul8 (b:=7) rfl rfl)<|wV (run_xor8 rfl rfl)<|wm<|wV (run_convU8 u3 u5 rfl)<|wV (run_mul8 (b:=3) rfl rfl)<|wV (run_xor8 rfl rfl)<|wI u76 ty5 rfl rfl ?_
          refine ws1 ty5 rfl rfl (rfl) hs (fun w hs=>?_)
          refine wZ ?_
          replace hs:Step S ((b,blk 5 (u8s (gb1 i (k+1))++(Z.drop 1++more)))::othL Lc i N) w0 w:=by
           rw[←gb_set (by omega)]
           exact hs
          refine cr<|wm<|wP ((k+1:Nat):Int)<|wA<|wZ<|(show _∧_ from⟨rfl,_,?_,k+1,Z.drop 1,by omega,rfl,(by rw[length_drop,hZ];omega),hs,rfl,rfl,rfl,trivial⟩)
          omega
         ·cases h
        ·obtain rfl:k=ns i:=by omega
         refine cq<|sr<|wm<|wm<|wm<|wI u24 ty76 rfl rfl<|wl ty76 rfl ((hvb' hs))<|wL u76 rfl<|lF<|wZ<|cF rfl<|CW.exit ?_
         have hZ0:Z=[]:=eq_nil_of_length_eq_zero (by rw[hZ,Nat.sub_self,Nat.zero_mul])
         rw[hZ0,nil_append] at hs
         refine⟨rfl,[_],⟨gb1_rows _ _,.inr ⟨b,cap,more,hvb,rfl,?_⟩⟩,hs,rfl,rfl,trivial⟩
         rw[length_append,gb1_rows]
         rw[length_append,hyl] at hcap
         exact hcap
     clear hs hf
     rintro f w ⟨L',hown,hs,hf⟩
     have ob:=hf.chain
     obtain⟨g,rfl⟩:=ob
     replace hs:Step S (allL (putL Lc i L') N) w0 w:=Step.shutA (A:=[]) hlt hs
     refine cr<|wm<|wP ((i+1:Nat):Int)<|wA<|wZ<|(show _∧_ from⟨rfl,_,?_,i+1,putL Lc i L',(fun q=>if q=i then u8s (gb1 i (ns i)) else ys q),by omega,rfl,?_,?_,hs,rfl,rfl,trivial⟩)
     ·omega
     ·intro q hq
      by_cases hqi:q=i
      ·subst hqi;simp
      ·simp only[hqi,if_false]
       exact hy q (by omega)
     ·intro q hq
      by_cases hqi:q=i
      ·subst hqi;simp only[putL,if_true];exact hown
      ·simp only[putL,hqi,if_false];exact ho q hq
    ·cases h
   ·obtain rfl:i=N:=by omega
    refine cq<|sr<|wm<|wm<|wL u24 rfl<|lF<|wZ<|cF rfl<|CW.exit ?_
    exact⟨rfl,Lc,fun q hq=>by rw[←hy q hq];exact ho q hq,hs,rfl,trivial⟩
 clear hs
 rintro f w ⟨Lc,ho,hs,hf⟩
 have ob:=hf.chain
 obtain⟨g,rfl⟩:=ob
 refine sr<|wA<|wZ ?_
 have hcv:Cells1 ((List.range N).map vs):=fun v hv=>by
  have ob:=mem_map.1 hv
  obtain⟨q,hq,rfl⟩:=ob
  exact(ho q (by simpa using hq)).one
 have hav:∀{X:OL}{w:World},Step S X w0 w→Sl w 1 (.slice (some ⟨bA,oA,none⟩) N cA) N ((List.range N).map vs):=fun hs=>.mk (by simp) (ha.step hs hbA)
 refine sr<|wm<|wm<|WL.append u24 u24 ty76 rfl (by decide) rfl rfl (OwnSl.nil _ _) (hs) (hav hs) (hcv) (by omega) rfl (fun v46 Lv46 w hv46 hs=>?_)
 refine wA<|wZ ?_
 rw[Nat.zero_add,nil_append] at hv46
 have ob:=hv46.some1 hN0
 obtain⟨bm,cm,room,hvm,hLm,hcm⟩:=ob
 rw[hLm] at hs
 replace hs:Step S ((bm,blk 76 ((List.range N).map vs++room))::allL Lc N) w0 w:=hs
 have hvc:∀{i:Nat}{X:OL}{w:World},i<N→Step S X w0 w→∃a c,vs i=.slice a (ns i) c∧w.cell? ⟨bA,oA+i*1,none⟩=some (.slice a (ns i) c):=fun {i X w} hi hs=>by
  have ob:=(ho i hi).form
  obtain⟨a,c,hvi⟩:=ob
  exact⟨a,c,hvi,(hcell hi hs).trans (congrArg some hvi)⟩
 refine CW.seqM (fun f w=>∃(us:Nat→Value) (L2:Nat→OL),(∀q,q<N→Tw 5 1 (vs q) (us q) (ns q) 96 (u8s (gb1 q (ns q))) (u8s (gb2 q 96)) (L2 q))∧Step S ((bm,blk 76 ((List.range N).map us++room))::allL L2 N) w0 w∧Holds f [(0,.slice (some ⟨bA,oA,none⟩) N cA),(5,.slice (some ⟨bm,0,none⟩) N cm)]) ?_ ?_
 ·refine sr<|wA<|wZ<|cB<|CW.loop (fun m f w'=>∃(k:Nat) (us:Nat→Value) (L2:Nat→OL),k≤96∧m=96 - k∧(∀q,q<N→Tw 5 1 (vs q) (us q) (ns q) k (u8s (gb1 q (ns q))) (u8s (gb2 q k)) (L2 q))∧Step S ((bm,blk 76 ((List.range N).map us++room))::allL L2 N) w0 w'∧Holds f [(0,.slice (some ⟨bA,oA,none⟩) N cA),(5,.slice (some ⟨bm,0,none⟩) N cm),(6,.int .i64 (k:Nat))]) (m:=96) ?_ ?_
  ·exact⟨0,vs,Lc,by omega,rfl,fun q hq=>Tw.start (ho q hq),hs,rfl,hvm,rfl,trivial⟩
  ·clear hs
   rintro m f w ⟨k,us,L2,hk,rfl,hT,hs,hf⟩
   have ob:=hf.chain
   obtain⟨g,rfl⟩:=ob
   by_cases hk20:k<96
   ·refine cq<|sr<|wm<|lT<|wZ<|CW.cond rfl (fun h=>?_) (fun h=>?_)
    ·refine ck<|cq<|cB<|sr<|wA<|wZ<|cB<|CW.loop (fun m f w'=>∃(i:Nat) (us:Nat→Value) (L2:Nat→OL),i≤N∧m=N - i∧(∀q,q<N→q<i→Tw 5 1 (vs q) (us q) (ns q) (k+1) (u8s (gb1 q (ns q))) (u8s (gb2 q (k+1))) (L2 q))∧(∀q,q<N→i≤q→Tw 5 1 (vs q) (us q) (ns q) k (u8s (gb1 q (ns q))) (u8s (gb2 q k)) (L2 q))∧Step S ((bm,blk 76 ((List.range N).map us++room))::allL L2 N) w0 w'∧Holds f [(0,.slice (some ⟨bA,oA,none⟩) N cA),(5,.slice (some ⟨bm,0,none⟩) N cm),(6,.int .i64 (k:Nat)),(7,.int .i64 (i:Nat))]) (m:=N) ?_ ?_
     ·exact⟨0,us,L2,Nat.zero_le _,rfl,fun q _ h=>(by omega),fun q hq _=>hT q hq,hs,rfl,rfl,rfl,rfl,trivial⟩
     ·clear hs hT
      rintro m f w ⟨i,us,L2,hi,rfl,hT1,hT0,hs,hf⟩
      have ob:=hf.chain
      obtain⟨g,rfl⟩:=ob
      by_cases hlt:i<N
      ·have hTi:=hT0 i hlt (Nat.le_refl _)
       have hni:=hn i hlt
       have ob:=hTi.formR
       obtain⟨au,cu,hui⟩:=ob
       have hmg:((List.range N).map us++room)[0+i*1]?=some (.slice au (ns i+k) cu):=(map_get hlt).trans (congrArg some hui)
       have hml:((List.range N).map us++room).length=N+room.length:=by simp
       rw[hui] at hTi
       refine cq<|sr<|wm<|wm<|wL u24 rfl<|lT<|wZ<|CW.cond rfl (fun h=>?_) (fun h=>?_)
       ·refine ck<|cq<|cB<|cr<|wm<|wm<|wm<|wm<|wI u24 ty76 rfl rfl<|wl ty76 rfl (hs.c0 hmg)<|wm<|wV (run_convU8 u3 u5 rfl)<|wV (run_sub8 (a:=255) rfl rfl)<|wm<|wV (run_convU8 u3 u5 rfl)<|wV (run_mul8 (b:=5) rfl rfl)<|wV (run_xor8 rfl rfl) ?_
        refine WL.buildSlice (cs:=[.int .u8 (m2 i k).toNat]) u76 ty5 rfl (by decide) rfl (by rfl) rfl hs (fun b70 w hs=>?_)
        have hsl:Sl w 1 (.slice (some ⟨b70,0,none⟩) 1 1) 1 [.int .u8 (m2 i k).toNat]:=.own1 hs rfl
        refine WL.appendTw u76 u76 ty5 rfl (by decide) rfl rfl (hTi) (Step.openA (A:=[_,_]) hlt hs) (hsl) (by decide) (Cells1.of_all rfl) (by omega) rfl (fun u71 L71 w hu71 hs=>?_)
        refine wI u24 ty76 rfl rfl<|ws1 ty76 rfl rfl (hu71.oneR) ((Step.front (L71++[_]) (p:=(bm,blk 76 ((List.range N).map us++room))) (by rw[append_assoc];exact hs))) (fun w hs=>?_)
        refine wZ ?_
        rw[set_map hlt] at hs
        replace hs:=Step.dropX (A:=_::L71) (B:=othL L2 i N) (by simpa[append_assoc] using hs)
        replace hs:=Step.shutA (A:=[_]) hlt (hs.perm perm_middle.symm)
        rw[←gb2_succ] at hu71
        refine cr<|wm<|wP ((i+1:Nat):Int)<|wA<|wZ<|(show _∧_ from⟨rfl,_,?_,i+1,(fun q=>if q=i then u71 else us q),putL L2 i L71,by omega,rfl,?_,?_,hs,rfl,rfl,rfl,rfl,trivial⟩)
        ·omega
        ·intro q hq hqi
         by_cases hqe:q=i
         ·subst hqe;simp only[putL,if_true];exact hu71
         ·simp only[putL,hqe,if_false];exact hT1 q hq (by omega)
        ·intro q hq hqi
         have hqe:q≠i:=by omega
         simp only[putL,hqe,if_false]
         exact hT0 q hq (by omega)
       ·cases h
      ·obtain rfl:i=N:=by omega
       refine cq<|sr<|wm<|wm<|wL u24 rfl<|lF<|wZ<|cF rfl<|CW.exit<|cr<|wm<|wP ((k+1:Nat):Int)<|wA<|wZ ?_
       refine(show _∧_ from⟨rfl,_,?_,k+1,us,L2,by omega,rfl,(fun q hq=>hT1 q hq hq),hs,rfl,rfl,rfl,trivial⟩)
       omega
    ·cases h
   ·obtain rfl:k=96:=by omega
    refine cq<|sr<|wm<|lF<|wZ<|cF rfl<|CW.exit ?_
    exact⟨rfl,us,L2,hT,hs,rfl,rfl,trivial⟩
 clear hs hf
 rintro f w ⟨us,L2,hT,hs,hf⟩
 have ob:=hf.chain
 obtain⟨g,rfl⟩:=ob
 refine CW.seqM (fun f w=>Step S ((bm,blk 76 ((List.range N).map us++room))::allL L2 N) w0 w) ?_ ?_
 ·refine sr<|wA<|wZ<|cB<|CW.loop (fun m f w'=>∃i:Nat,i≤N∧m=N - i∧Step S ((bm,blk 76 ((List.range N).map us++room))::allL L2 N) w0 w'∧Holds f [(0,.slice (some ⟨bA,oA,none⟩) N cA),(5,.slice (some ⟨bm,0,none⟩) N cm),(8,.int .i64 (i:Nat))]) (m:=N) ?_ ?_
  ·exact⟨0,Nat.zero_le _,rfl,hs,rfl,rfl,rfl,trivial⟩
  ·clear hs
   rintro m f w ⟨i,hi,rfl,hs,hf⟩
   have ob:=hf.chain
   obtain⟨g,rfl⟩:=ob
   by_cases hlt:i<N
   ·have hTi:=hT i hlt
    have hni:=hn i hlt
    have ob:=hvc hlt hs
    obtain⟨av,cv,hvi,-⟩:=ob
    have hcv:∀{X:OL}{w:World},Step S X w0 w→w.cell? ⟨bA,oA+i*1,none⟩=some (.slice av (ns i) cv):=fun hs=>(hcell hlt hs).trans (congrArg some hvi)
    have hR0:=hTi.right (w:=w) fun p hp=>hs.has p (mem_cons_of_mem _ (allL_mem hlt hp))
    have ob:=hR0.baseB (by omega)
    obtain⟨bu,ou,cu,hui⟩:=ob
    have hR:∀{w:World},(∀p∈L2 i,w.heap[p.1]?=some p.2)→At w bu ou (u8s (gb1 i (ns i)++gb2 i 96)):=fun h=>by
     have h1:=hTi.right h
     rw[hui,←u8s_append] at h1
     exact h1.atB (by omega)
    have hmg:((List.range N).map us++room)[0+i*1]?=some (.slice (some ⟨bu,ou,none⟩) (ns i+96) cu):=(map_get hlt).trans (congrArg some hui)
    refine cq<|sr<|wm<|wm<|wL u24 rfl<|lT<|wZ<|CW.cond rfl (fun h=>?_) (fun h=>?_)
    ·refine ck<|cq<|cB<|sr<|wm<|wm<|wI u24 ty76 rfl rfl<|wl ty76 rfl ((hcv hs))<|wL u76 rfl<|wA<|wZ<|sr<|wA<|wZ<|cB ?_
     refine CW.loop (fun m f w'=>∃k:Nat,k≤ns i+96∧m=ns i+96 - k∧Step S ((bm,blk 76 ((List.range N).map us++room))::allL L2 N) w0 w'∧Holds f [(0,.slice (some ⟨bA,oA,none⟩) N cA),(5,.slice (some ⟨bm,0,none⟩) N cm),(8,.int .i64 (i:Nat)),(9,.int .i64 (ns i:Nat)),(10,.int .i64 (k:Nat))]) (m:=ns i+96) ?_ ?_
     ·exact⟨0,Nat.zero_le _,rfl,hs,rfl,rfl,rfl,rfl,rfl,trivial⟩
     ·clear hs
      rintro m f w ⟨k,hk,rfl,hs,hf⟩
      have ob:=hf.chain
      obtain⟨g,rfl⟩:=ob
      by_cases hkl:k<ns i+96
      ·refine cq<|sr<|wm<|wm<|wP ((ns i+96:Nat):Int)<|lT<|wZ<|CW.cond rfl (fun h=>?_) (fun h=>?_)
       ·by_cases hkn:k<ns i
        ·have hx:(gb1 i (ns i)++gb2 i 96)[k]?=some (m1 i k):=by rw[getElem?_append_left (by rw[gb1_len];exact hkn),gb1_get hkn]
         have hL0:=hTi.left (w:=w) fun p hp=>hs.has p (mem_cons_of_mem _ (allL_mem hlt hp))
         have ob:=hL0.baseB (by omega)
         obtain⟨bv,ov,cv',hvb⟩:=ob
         have hLt:∀{w:World},(∀p∈L2 i,w.heap[p.1]?=some p.2)→At w bv ov (u8s (gb1 i (ns i))):=fun h=>by
          have h1:=hTi.left h
          rw[hvb] at h1
          exact h1.atB (by omega)
         have hcb:∀{X:OL}{w:World},Step S X w0 w→w.cell? ⟨bA,oA+i*1,none⟩=some (.slice (some ⟨bv,ov,none⟩) (ns i) cv'):=fun hs=>(hcell hlt hs).trans (congrArg some hvb)
         refine ck<|cq<|cB<|sr<|wm<|wV (run_convU8 u3 u5 rfl)<|wm<|wV (run_shrN (j:=1) rfl rfl (by decide))<|wV (run_convU8 u3 u5 rfl)<|wV (run_mul8 (b:=7) rfl rfl)<|wV (run_xor8 rfl rfl)<|wm<|wV (run_convU8 u3 u5 rfl)<|wV (run_mul8 (b:=3) rfl rfl)<|wV (run_xor8 rfl rfl)<|wA<|wZ<|cq<|sr<|wm<|wm<|jF<|wZ ?_
         refine cF rfl<|ck<|sr<|wm<|wm<|wI u24 ty76 rfl rfl<|wl ty76 rfl (hs.c0 hmg)<|wm<|wI u76 ty5 rfl rfl<|wl ty5 rfl (((hR (fun p hp=>hs.has p (mem_cons_of_mem _ (allL_mem hlt hp)))).u8q hx))<|wm<|wV (run_bF (run_neq rfl rfl) (by exact fun h=>h rfl))<|wm ?_
         refine wy<|wm<|wy<|wm<|wy<|lT<|wy<|wm<|wy<|wm<|wy<|wm ?_
         refine wy ?_;(first | refine WL.val rfl (run_ixSlN u24 ty76 rfl rfl (by omega)) ?_ | refine WL.val rfl (run_ixSl u24 ty76 rfl rfl (by omega)) ?_)
         refine wy<|wl ty76 rfl ((hcb hs))<|wy<|wm ?_
         refine wy ?_;(first | refine WL.val rfl (run_ixSlN u76 ty5 rfl rfl (by omega)) ?_ | refine WL.val rfl (run_ixSl u76 ty5 rfl rfl (by omega)) ?_)
         refine wy<|wl ty5 rfl (((hLt (fun p hp=>hs.has p (mem_cons_of_mem _ (allL_mem hlt hp)))).u8q (gb1_get hkn)))<|wy<|wm<|wy<|wV (run_bF (run_neq rfl rfl) (by exact fun h=>h rfl)) ?_
         refine wy ?_;(first | refine WL.val rfl (run_pickT rfl) ?_ | refine WL.val rfl (run_pickF rfl) ?_)
         refine pF<|wZ<|cF rfl<|ck<|cr<|wm<|wP ((k+1:Nat):Int)<|wA<|wZ<|(show _∧_ from⟨rfl,_,?_,k+1,by omega,rfl,hs,rfl,rfl,rfl,rfl,rfl,trivial⟩)
         omega
        ·have ob:∃j,k=ns i+j:=⟨k - ns i,by omega⟩
         obtain⟨j,rfl⟩:=ob
         have hx:(gb1 i (ns i)++gb2 i 96)[ns i+j]?=some (m2 i j):=by rw[getElem?_append_right (by rw[gb1_len];omega),gb1_len,show ns i+j - ns i=j by omega,gb2_get (by omega)]
         refine ck<|cq<|cB<|sr<|wm<|wV (run_convU8 u3 u5 rfl)<|wm<|wV (run_shrN (j:=1) rfl rfl (by decide))<|wV (run_convU8 u3 u5 rfl)<|wV (run_mul8 (b:=7) rfl rfl)<|wV (run_xor8 rfl rfl)<|wm<|wV (run_convU8 u3 u5 rfl)<|wV (run_mul8 (b:=3) rfl rfl)<|wV (run_xor8 rfl rfl)<|wA<|wZ<|cq<|sr<|wm<|wm<|jT<|wZ<|cT rfl<|cr<|wm<|wV (run_convU8 u3 u5 rfl) ?_
         refine wV (run_sub8 (a:=255) rfl rfl)<|wm<|wm<|wS ((j:Nat):Int)<|wV (run_convU8 u3 u5 rfl)<|wV (run_mul8 (b:=5) rfl rfl)<|wV (run_xor8 rfl rfl)<|wA<|wZ<|sr<|wm<|wm<|wI u24 ty76 rfl rfl<|wl ty76 rfl (hs.c0 hmg)<|wm<|wI u76 ty5 rfl rfl<|wl ty5 rfl (((hR (fun p hp=>hs.has p (mem_cons_of_mem _ (allL_mem hlt hp)))).u8q hx))<|wm<|wV (run_bF (run_neq rfl rfl) (by exact fun h=>h rfl))<|wm ?_
         refine wy<|wm<|wy<|wm<|wy<|lF<|wy<|wm<|wz<|wz<|wz<|wz<|wz<|wz<|wz<|wz<|wz ?_
         refine wy ?_;(first | refine WL.val rfl (run_pickT rfl) ?_ | refine WL.val rfl (run_pickF rfl) ?_)
         refine pF<|wZ<|cF rfl<|ck<|cr<|wm<|wP ((ns i+j+1:Nat):Int)<|wA<|wZ<|(show _∧_ from⟨rfl,_,?_,ns i+j+1,by omega,rfl,hs,rfl,rfl,rfl,rfl,rfl,trivial⟩)
         omega
       ·cases h
      ·obtain rfl:k=ns i+96:=by omega
       refine cq<|sr<|wm<|wm<|wP ((ns i+96:Nat):Int)<|lF<|wZ<|cF rfl<|CW.exit<|cr<|wm<|wP ((i+1:Nat):Int)<|wA<|wZ ?_
       refine(show _∧_ from⟨rfl,_,?_,i+1,by omega,rfl,hs,rfl,rfl,rfl,trivial⟩)
       omega
    ·cases h
   ·obtain rfl:i=N:=by omega
    refine cq<|sr<|wm<|wm<|wL u24 rfl<|lF<|wZ<|cF rfl<|CW.exit ?_
    exact⟨rfl,hs⟩
 clear hs
 intro f w hs
 refine sr<|wA<|wZ<|CW.ret ?_
 refine fin_ret1 rfl ?_
 exact⟨rfl,hs.clear⟩
end
end Go.Gx
namespace Go.Gx
open Go.Proofs List
attribute [local irreducible] shaL cutD frontL
section
variable{f:Slots}{w:World}{d:Option Tmp}{ty:TypeId}{pos:String}{af:Array Edge}{x y:Operand}{T':TypeId}
theorem run_neqDig{a:U8} (ha:a.length=32) (hx:ev f x=.agg (u8s a).toArray) (hy:ev f y=.agg (u8s a).toArray) :
  (execOp (ev f) ⟨d,.binOp .neq 44 x y T',ty,pos,af,none⟩).run Tryz.prog w=.ok (.value (.bool false)) w:=by
 have h:=run_neqAgg (P:=Tryz.prog) (f:=f) (w:=w) (d:=d) (ty:=ty) (pos:=pos) (af:=af) (x:=x) (y:=y) (T:=44) (T':=T') (p:=True) (by simp) dig_key (dig_formed ha) (dig_formed ha) dig_guard hx hy (dig_lits ha) (dig_lits ha)
 simpa using h
end
def dgF (a:UInt8) (i:Nat):(List UInt8):=a::u8Z (i:Int)::List.replicate 30 0
def dg1 (a:UInt8):(List UInt8):=a::List.replicate 31 0
theorem dgF_32 (a:UInt8) (i:Nat):(dgF a i).length=32:=by simp[dgF]
theorem dg1_32 (a:UInt8):(dg1 a).length=32:=by simp[dg1]
theorem dgF_u (a:UInt8) (i:Nat):(u8s (dgF a i)).length=32:=by rw[u8s,length_map,dgF_32]
theorem dg1_u (a:UInt8):(u8s (dg1 a)).length=32:=by rw[u8s,length_map,dg1_32]
theorem bld_dF (a b:UInt8) (w:World):(Instr.build 44 #[(0,.int .u8 a.toNat),(1,.int .u8 b.toNat)]).run Tryz.prog w=.ok (.agg (u8s (a::b::List.replicate 30 0)).toArray) w:=by kernel_rfl
theorem bld_f1 (i:Nat) (w:World):(Instr.build 44 #[(0,.int .u8 1),(1,.int .u8 (u8Z (i:Int)).toNat)]).run Tryz.prog w=.ok (.agg (u8s (dgF 1 i)).toArray) w:=bld_dF 1 _ w
theorem bld_f2 (i:Nat) (w:World):(Instr.build 44 #[(0,.int .u8 2),(1,.int .u8 (u8Z (i:Int)).toNat)]).run Tryz.prog w=.ok (.agg (u8s (dgF 2 i)).toArray) w:=bld_dF 2 _ w
theorem bld_f3 (i:Nat) (w:World):(Instr.build 44 #[(0,.int .u8 3),(1,.int .u8 (u8Z (i:Int)).toNat)]).run Tryz.prog w=.ok (.agg (u8s (dgF 3 i)).toArray) w:=bld_dF 3 _ w
theorem bld_g4 (w:World):(Instr.build 44 #[(0,.int .u8 4)]).run Tryz.prog w=.ok (.agg (u8s (dg1 4)).toArray) w:=by kernel_rfl
theorem bld_g5 (w:World):(Instr.build 44 #[(0,.int .u8 5)]).run Tryz.prog w=.ok (.agg (u8s (dg1 5)).toArray) w:=by kernel_rfl
def filD (a:UInt8) (i:Nat) (l:List (List UInt8)):List (List UInt8):=(List.range i).map (dgF a)++l.drop i
theorem filD_len{a:UInt8}{i:Nat}{l:List (List UInt8)} (h:i≤l.length):(filD a i l).length=l.length:=by simp[filD];omega
theorem filD_32{a:UInt8}{i:Nat}{l:List (List UInt8)} (h:∀d∈l,d.length=32):∀d∈filD a i l,d.length=32:=fun d hd=>by
 rcases mem_append.1 hd with hd | hd
 ·have ob:=mem_map.1 hd
  obtain⟨k,_,rfl⟩:=ob
  exact dgF_32 a k
 ·exact h d (mem_of_mem_drop hd)
theorem filD_zero (a:UInt8) (l:List (List UInt8)):filD a 0 l=l:=by simp[filD]
theorem filD_get{a:UInt8}{i:Nat}{l:List (List UInt8)} (h:i<l.length):(filD a l.length l)[i]?=some (dgF a i):=by
 rw[filD,getElem?_append_left (by simpa using h),getElem?_map,getElem?_range h];rfl
theorem filD_splice{a:UInt8}{i:Nat}{l:List (List UInt8)}{more:List Value} (h32:∀d∈l,d.length=32) (h:i<l.length):splice (digsL (filD a i l)++more) (0+i*32) (u8s (dgF a i))=digsL (filD a (i+1) l)++more:=by
 have e:digsL (filD a i l)++more=digsL ((List.range i).map (dgF a))++u8s l[i]++(digsL (l.drop (i+1))++more):=by
  rw[filD,digsL_append,drop_eq_getElem_cons h,show l[i]::l.drop (i+1)=[l[i]]++l.drop (i+1) from rfl,digsL_append,show digsL [l[i]]=u8s l[i] by simp[digsL]]
  simp only[append_assoc]
 have hl:(digsL ((List.range i).map (dgF a))).length=i*32:=by
  rw[digsL_len (fun d hd=>by obtain⟨k,_,rfl⟩:=mem_map.1 hd;exact dgF_32 a k)];simp
 rw[e,splice_mid (by rw[hl];omega) (by rw[dgF_u,u8s,length_map,h32 _ (getElem_mem h)])]
 have e2:digsL (filD a (i+1) l)=digsL ((List.range i).map (dgF a))++u8s (dgF a i)++digsL (l.drop (i+1)):=by
  rw[filD,digsL_append,range_succ,map_append,digsL_append,show digsL ([i].map (dgF a))=u8s (dgF a i) by simp[digsL]]
 rw[e2]
 simp only[append_assoc]
theorem filD_blk{a:UInt8}{i n:Nat}{l:List (List UInt8)}{more:List Value} (h32:∀d∈l,d.length=32) (h:i≤l.length) (hm:(digsL l++more).length=n):(digsL (filD a i l)++more).length=n:=by
 rw[←hm,length_append,length_append,digsL_len (filD_32 h32),digsL_len h32,filD_len h]
section
variable{bp N k:Nat}{s:AS}{D L:OL}{d:U8}{gf of:List (List UInt8)}{w0:World}{v:Value}{x:U8}
set_option maxHeartbeats 4000000 in
theorem packed_spec (hR:PRep bp s D L) (ok:s.Ok) (hfew:s.Few N) (hN:N<1000000000000) (hd:d.length=32) (hG:(runs s rmG [rootS d] ws0).1=0→Goes (partsM s (runs s rmG [rootS d] ws0).2.m) [d] [] [] gf of k) (hw:Lives (L++D) w0)
  (hx:(packR s (runs s rmG [rootS d] ws0) of).1=x) (hv:∀{w:World}{Y:OL},Step (L.map (·.1)) Y w0 w→Sl w 1 v x.length (u8s x)) :
  CP 38 #[pt bp,.agg (u8s d).toArray,v] w0 fun e w'=>e=.returned (.bool true)∧Step (L.map (·.1)) [] w0 w':=by
 have hs:Step (List.map (·.1) (L++D)) (L++D) w0 w0:=hw
 have hzl:(u8s d).length=32:=by rw[u8s,length_map,hd]
 have hpack:=fun{w:World} h=>pack_spec (w0:=w) (rn:=65536) (rd:=32) (rb:=67108864) (gf:=gf) (of:=of) (k:=k) hR ok hfew hN hd rmG_ok hG h
 have hx':(packR s (runs s (rmOf 65536 32 67108864) [rootS d] ws0) of).1=x:=hx
 simp only[hx'] at hpack
 refine calls (n:=21) Tryz.func38 rfl rfl rfl ?_
 refine sr<|WL.box (cs:=u8s d) rfl rfl rfl hs (fun b4 w hs=>?_)
 refine wA<|wZ ?_
 replace hs:Step (List.map (·.1) (L++D)) ([(b4,blk 44 (u8s d))]++(L++D)) w0 w:=hs
 refine cq<|CW.any (A:=fun w=>w.heap[b4]?=some (blk 44 (u8s d))) (C:=fun w=>w.heap[b4]?=some (blk 44 (u8s d))) 1000000 9 mixedP rfl ?_
 replace hs:=hs.drew
 refine aM 0 rfl<|aV 1 rfl (fun w hs=>run_loadN ty44 rfl hzl (At.of_blk hs))<|AL.one 2 (by kernel_rfl) rfl (hs.has (b4,blk 44 (u8s d)) (by simp)) (hs.has (b4,blk 44 (u8s d)) (by simp)) ?_
 refine wE rfl (run_call en28 rfl rfl) (great_spec _) ?_
 rintro e w ⟨rfl,hq⟩
 refine⟨_,rfl,?_⟩
 replace hs:=hs.callE hq
 refine wZ<|⟨rfl,?_⟩
 refine AL.one 3 (by kernel_rfl) rfl (hs.has (b4,blk 44 (u8s d)) (by simp)) (hs.has (b4,blk 44 (u8s d)) (by simp)) ?_
 refine wE rfl (run_call en33 rfl rfl) (hpack (Own.live (A:=[_]) hs)) ?_
 rintro e w ⟨v7,Lv,L1,D1,rfl,hP1,hvp,hq1⟩
 refine⟨_,rfl,?_⟩
 replace hs:=Own.put (A:=[_]) hs hq1
 refine wZ<|⟨rfl,?_⟩
 refine aM 4 rfl<|aX 5 rfl rfl rfl<|aX 6 rfl rfl rfl<|aA 7 rfl<|aA 8 rfl<|AL.end (by kernel_rfl) (hs.has (b4,blk 44 (u8s d)) (by simp)) (hs.has (b4,blk 44 (u8s d)) (by simp)) ?_
 have hs4:Step (L.map (·.1)) (L1++(Lv++D1)) w0 w:=Step.fin (M:=[]) (D1:=Lv++D1) hw hs.tail
 refine sr<|wm<|wV (run_toString u76 u9 u5 rfl (hvp.slH fun p hp=>hs4.has p (by simp[hp])))<|wm<|wV (run_toString u76 u9 u5 rfl (hv hs4))<|wV (run_bT (run_strEq rfl rfl) (by rfl))<|wA<|wZ<|CW.ret ?_
 refine fin_ret1 rfl ?_
 exact⟨rfl,hs4.clear⟩
end
end Go.Gx
