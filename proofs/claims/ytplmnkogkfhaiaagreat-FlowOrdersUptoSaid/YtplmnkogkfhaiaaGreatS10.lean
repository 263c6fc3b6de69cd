/- behind: walked, whole. What a walk that went well has met: it holds the parts of its directories. No program in sight. The document's Parts: walked. The document's going behind the parts: to. The document's Behind: walked. A directory's parts are few. No program in sight. Copying, plain: what is lai -/
import Derived.Test.YtplmnkogkfhaiaaGreatS9
import Derived.Test.YtplmnkogkfhaiaaGreatS2
set_option linter.unusedVariables false
set_option linter.unusedSimpArgs false
set_option maxRecDepth 100000
namespace Go.Gx
open Go.Proofs List
attribute [local irreducible] shaL cutD frontL
theorem OwnSl.slH{E sz:Nat}{v:Value}{k:Nat}{xs:List Value}{Lv:OL}{w:World} (h:OwnSl E sz v k xs Lv) (hw:∀p∈Lv,w.heap[p.1]?=some p.2):Sl w sz v k xs:=by
 obtain⟨hl,⟨rfl,rfl,rfl⟩ | ⟨b,cap,more,rfl,rfl,hc⟩⟩:=h
 ·exact⟨hl,.inl ⟨none,0,rfl,rfl⟩⟩
 ·exact .mk hl (At.of_blk (hw (b,blk E (xs++more)) (by simp))).left
section
variable{S:List Nat}{a b c q:Nat×Obj}{T Lo X:OL}{w w':World}
theorem Step.bIn (h:Step S (a::b::(T++(q::Lo))) w w'):Step S (Lo++(a::b::q::T)) w w':=h.perm (by classical exact perm_iff_count.2 fun x=>by simp only[count_append,count_cons];omega)
theorem Step.bOut (h:Step S (Lo++(a::b::q::T)) w w'):Step S (T++(q::Lo)) w w':=Step.tail (p:=b) (Step.tail (p:=a) (h.perm (by classical exact perm_iff_count.2 fun x=>by simp only[count_append,count_cons];omega)))
theorem Step.bT (h:Step S (a::b::(T++X)) w w'):Step S (T++(a::b::X)) w w':=h.perm (perm_append_comm_assoc [a,b] T X)
theorem Step.bU (h:Step S (T++(a::b::X)) w w'):Step S (a::b::(T++X)) w w':=h.perm (perm_append_comm_assoc T [a,b] X)
theorem Step.bQ (h:Step S (a::b::c::(T++(q::Lo))) w w'):Step S (q::a::b::c::(T++Lo)) w w':=h.perm (by classical exact perm_iff_count.2 fun x=>by simp only[count_append,count_cons];omega)
theorem Step.bR (h:Step S (q::a::b::c::(T++Lo)) w w'):Step S (T++(q::a::b::c::Lo)) w w':=h.perm (by classical exact perm_iff_count.2 fun x=>by simp only[count_append,count_cons];omega)
theorem Step.bS (h:Step S (T++(q::a::b::c::Lo)) w w'):Step S (T++(q::Lo)) w w':=Step.tail (p:=c) (Step.tail (p:=b) (Step.tail (p:=a) (h.perm (by classical exact perm_iff_count.2 fun x=>by simp only[count_append,count_cons];omega))))
theorem Step.bW (h:Step S (a::b::c::(T++X)) w w'):Step S (T++X) w w':=h.tail.tail.tail
end
theorem Fin.nil_inv{P:U8→List (List UInt8)}{gf of g o:List (List UInt8)}{K:Nat} (h:Fin P gf of [] g o K):o=of:=by cases h;rfl
theorem MapP.parts{s:AS}{D:OL}{m:List (List UInt8×Bool)}{M:DM}{w0:World} (h:MapP s D m M) (hw:∀p∈D,w0.heap[p.1]?=some p.2) (d:U8) :
  ∃v,((findD d M 0).map (·.2)).getD (.slice none 0 0)=v∧Sl w0 32 v (partsM s m d).length (digsL (partsM s m d)):=by
 have h1:=h.val d
 cases hv:valD d M with
 | none=>
  rw[hv] at h1
  refine⟨.slice none 0 0,?_,?_⟩
  ·show(valD d M).getD _=_
   rw[hv];rfl
  ·rw[partsM,if_neg h1];exact Sl.nil _ _ _
 | some u=>
  rw[hv] at h1
  obtain⟨h2,Lv,h3,h4⟩:=h1
  refine⟨u,?_,?_⟩
  ·show(valD d M).getD _=_
   rw[hv];rfl
  ·rw[partsM,if_pos h2];exact h3.slH fun p hp=>hw p (h4 p hp)
section
variable{bm:Nat}{s:AS}{m:List (List UInt8×Bool)}{D W:OL}{w0:World}{r:U8}{gf of:List (List UInt8)}{k:Nat}
set_option maxHeartbeats 4000000 in
theorem behind_spec (hM:MetRep bm s m D W) (hw:Lives (W++D) w0) (h32:∀d∈ordM m,d.length=32) (hPU:∀d∈ordM m,∀x∈partsM s m d,x∈ordM m) (hpl:∀d,(partsM s m d).length<1000000000) (hml:m.length≤65536) (hr:(ordM m)[0]?=some r) (hG:Goes (partsM s m) [r] [] [] gf of k) :
  CP 70 #[pt bm] w0 fun e w'=>∃v Lv,e=.returned v∧OwnSl 44 32 v of.length (digsL of) Lv∧Step [] Lv w0 w':=by
 obtain⟨vO,LO,q1,M1,c1,q2,M2,c2,rfl,hO,hB,hPm⟩:=hM
 have hol:=ordM_len m
 have hrU:=mem_of_getElem? hr
 have hr32:=h32 r hrU
 have hrl:(u8s r).length=32:=by rw[u8s,length_map,hr32]
 have h0:0<(ordM m).length:=(List.getElem?_eq_some_iff.1 hr).1
 have ob:=hO.some1 h0
 obtain⟨bo,co,more,ho1,ho2,ho3⟩:=ob
 subst ho1
 subst ho2
 have hs:Step [] [] w0 w0:=Step.refl w0
 have hatM:∀{w},Step [] [] w0 w→At w bm 0 [.slice (some ⟨bo,0,none⟩) (ordM m).length co,.map (some q1),.map (some q2)]:=fun h=>At.of_blk (h.old (hw.has (bm,blk 132 [.slice (some ⟨bo,0,none⟩) (ordM m).length co,.map (some q1),.map (some q2)]) (by simp)) (by simp))
 have hroot:∀{w},Step [] [] w0 w→At w bo (0+0*32) (u8s r):=fun h=>digsL_at h32 (At.of_blk (h.old (hw.has (bo,blk 44 (digsL (ordM m)++more)) (by simp)) (by simp))).left hr
 have hq2:∀{w},Step [] [] w0 w→w.heap[q2]?=some (mapObj M2 c2):=fun h=>h.old (hw.has (q2,mapObj M2 c2) (by simp)) (by simp)
 have hparts:=hPm.parts fun p hp=>hw.has p (by simp[hp])
 have ob:=Fin.root hG
 obtain⟨K0,hF0⟩:=ob
 refine calls (n:=79) Tryz.func70 rfl rfl rfl ?_
 refine sr<|wA<|wZ<|sr<|wA<|wZ<|sr<|WL.alloc ty217 rfl hs (fun b4 w hs=>?_)
 refine wZ ?_
 have hS0:Stk 217 220 33 b4 [] [(b4,blk 217 [.slice none 0 0])]:=⟨(fun c hc=>by cases hc),_,[],rfl,OwnSl.nil _ _⟩
 refine sr<|WL.makeMapD rfl hs (fun b12 w hs=>?_)
 refine wm<|wn rfl<|wF 0 u132 rfl ty35 rfl<|wl ty35 rfl ((hatM hs.clear).cell (j:=0) rfl)<|wV (run_ixSlN (i:=0) u35 ty44 rfl rfl (by omega))<|wR ty44 rfl hrl (hroot hs.clear)<|wV (run_build rfl (bld_none _))<|WL.mapIns u141 rfl rfl rfl SetD.nil.keys hr32 hs (fun w hs=>?_)
 refine wm<|wA<|wZ<|sr<|wm<|wn rfl<|wF 0 u132 rfl ty35 rfl<|wl ty35 rfl ((hatM hs.clear).cell (j:=0) rfl)<|wV (run_ixSlN (i:=0) u35 ty44 rfl rfl (by omega))<|wR ty44 rfl hrl (hroot hs.clear)<|wV (run_build rfl (bld_p0 hr32 _))<|wE rfl (run_call en118 rfl rfl) (pushplace_spec (c:=plC8 (r,0)) hS0 (plC8_len hr32) (plC8_c1 _) (by simp) (Lives.of (L1:=[_]) hs.swap)) ?_
 rintro e w ⟨T1,rfl,hS1,hq⟩
 refine⟨_,rfl,?_⟩
 replace hs:=Step.call (L1:=[_]) hs.swap hq
 refine wZ ?_
 have hSet0:SetD (putM r (.agg #[]) 0 []) [r]:=SetD.nil.put hr32 0
 refine cB<|CW.loop (fun z f w'=>∃S g o T Mg cg vo Lo,Fin (partsM s m) gf of S g o z∧(∀x∈S,x.1∈ordM m)∧S.length+o.length≤g.length∧g.Nodup∧(∀x∈g,x∈ordM m)∧SetD Mg g∧Stk 217 220 33 b4 (S.map plC8) T∧OwnSl 44 32 vo o.length (digsL o) Lo∧Step [] (T++((b12,mapObj Mg cg)::Lo)) w0 w'∧Holds f [(0,pt bm),(3,vo),(4,pt b4),(5,.map (some b12))]) (m:=K0) ?_ ?_
 ·exact⟨[(r,0)],[r],[],T1,_,_,_,[],hF0,fun x hx=>by obtain rfl:=mem_singleton.1 hx;exact hrU,by simp,by simp,fun x hx=>by obtain rfl:=mem_singleton.1 hx;exact hrU,hSet0,hS1,OwnSl.nil _ _,hs,rfl,rfl,rfl,rfl,trivial⟩
 clear hs hS1 hSet0
 rintro z f w ⟨S,g,o,T,Mg,cg,vo,Lo,hF,hSU,hlen,hnd,hgU,hSet,hS,ho,hs,hf⟩
 have ob:=hf.chain
 obtain⟨gg,rfl⟩:=ob
 have hgl:=nodup_len hnd hgU
 cases S with
 | nil=>
  have hof:=hF.nil_inv
  refine cB<|sr<|wE rfl (run_call en119 rfl rfl) (popplace_nil hS (Lives.of (L1:=T) hs)) ?_
  rintro e w ⟨zz,rfl,hz,hz1,hq⟩
  refine⟨_,rfl,?_⟩
  replace hs:=hs.callE hq
  refine wm<|wx rfl rfl<|wx rfl rfl<|WL.alloc ty220 rfl hs (fun b6 w hs=>?_)
  refine WL.storeAll ty220 rfl rfl ((hz)) ((hz1)) hs (by rfl) (fun w hs=>?_)
  refine wA<|wZ<|cq<|sr<|wm<|wN rfl<|wZ<|CW.cond rfl (fun h=>?_) (fun h=>?_)
  ·refine sr<|wm<|wA<|wZ<|CW.ret ?_
   refine fin_ret1 rfl ?_
   exact⟨_,Lo,rfl,by rw[←hof];exact ho,Step.tail (Step.dropL (L1:=T) hs.tail)⟩
  ·cases h
 | cons x S'=>
  obtain⟨d,n⟩:=x
  have hdU:d∈ordM m:=hSU (d,n) (by simp)
  have hd32:=h32 d hdU
  have hdl:(u8s d).length=32:=by rw[u8s,length_map,hd32]
  have hcl:=plC8_len (x:=(d,n)) hd32
  have hcn:(plC8 (d,n))[32]?=some (.int .i64 (n:Nat)):=by show(u8s d++[Value.int .i64 (n:Nat)])[32]?=_;rw[getElem?_append_right (by omega),hdl];rfl
  have hnle:=hF.le
  have hpd:=hpl d
  rw[length_cons] at hlen
  have hSU':∀x∈S',x.1∈ordM m:=fun x hx=>hSU x (by simp[hx])
  have ob:=hparts d
  obtain⟨vp,hvp,hvs⟩:=ob
  have ob:=hvs.form
  obtain⟨pa,pc,rfl⟩:=ob
  refine cB<|sr<|wE rfl (run_call en119 rfl rfl) (popplace_spec (c:=plC8 (d,n)) (l:=S'.map plC8) hS (by rw[length_map];omega) (Lives.of (L1:=T) hs)) ?_
  rintro e w ⟨T2,rfl,hS2,hq⟩
  refine⟨_,rfl,?_⟩
  replace hs:=Step.call (L1:=T) hs hq
  refine wm<|wx rfl rfl<|wx rfl rfl<|WL.alloc ty220 rfl hs (fun b6 w hs=>?_)
  refine WL.storeAll ty220 rfl rfl ((hcl)) ((plC8_c1 _)) hs (by rfl) (fun w hs=>?_)
  refine wA<|wZ<|cq<|sr<|wm<|wN rfl<|wZ<|CW.cond rfl (fun h=>?_) (fun h=>?_)
  ·cases h
  refine ck<|cq<|CW.quiet mixedP (by kernel_rfl) hs ?_
  refine qm<|qn rfl<|qF 2 u132 rfl ty130 rfl<|qL ty130 rfl (fun w hs=>(hatM hs.clear).cell (j:=2) rfl)<|qF 0 u220 rfl ty44 rfl<|qV (fun w hs=>run_loadN ty44 rfl hdl hs.a0.left)<|qV (fun w hs=>run_lookupV u130 (zDigs _) hPm.keys hd32 hvp rfl rfl (hq2 hs.clear))<|qA<|QL.nil (fun w hs=>?_)
  by_cases hn:n=(partsM s m d).length
  ·have ob:=hF.done hn
   obtain⟨K',hK,hF2⟩:=ob
   refine cq<|sr<|wF 32 u220 rfl ty3 rfl<|wl ty3 rfl (hs.c0 hcn)<|wm<|wL u35 rfl<|eT<|wZ<|CW.cond rfl (fun h=>?_) (fun h=>?_)
   ·refine sr<|wm<|wF 0 u220 rfl ty44 rfl<|wR ty44 rfl hdl hs.a0.left<|WL.buildSlice (cs:=u8s d) u35 ty44 rfl (by decide) rfl (filled1 hdl rfl) rfl hs (fun b51 w hs=>?_)
    have hsl51:Sl w 32 (.slice (some ⟨b51,0,none⟩) 1 1) 1 (u8s d):=.own1 hs (by rw[hdl])
    replace hs:=Step.bIn hs
    refine WL.append u35 u35 ty44 rfl (by decide) rfl rfl (ho) (hs) (hsl51) (Cells1.u8s _) (by omega) rfl (fun v52 Lv52 w hv52 hs=>?_)
    replace hs:=Step.bOut hs
    refine wA<|wZ ?_
    have ho2:OwnSl 44 32 v52 (o++[d]).length (digsL (o++[d])) Lv52:=by rw[length_append,digsL_snoc];exact hv52
    refine CW.exit<|(show _∧_ from⟨rfl,_,?_,S',g,o++[d],T2,Mg,cg,v52,Lv52,hF2,hSU',?_,hnd,hgU,hSet,hS2,ho2,hs,rfl,rfl,rfl,rfl,trivial⟩)
    ·exact hK
    ·rw[length_append,length_singleton];omega
   ·cases h
  ·have hnlt:n<(partsM s m d).length:=by omega
   have ob:∃x,(partsM s m d)[n]?=some x:=⟨_,getElem?_eq_getElem hnlt⟩
   obtain⟨x,hx⟩:=ob
   have hxU:=hPU d hdU x (mem_of_getElem? hx)
   have hx32:=h32 x hxU
   have hxl:(u8s x).length=32:=by rw[u8s,length_map,hx32]
   obtain⟨pb,po,pc2,hpe,hpat⟩:∃pb po pc2,Value.slice pa (partsM s m d).length pc=.slice (some ⟨pb,po,none⟩) (partsM s m d).length pc2∧At w0 pb po (digsL (partsM s m d)):=by
    obtain⟨_,⟨a,cc,h1,h2⟩ | ⟨b,off,cc,h1,h2⟩⟩:=hvs
    ·omega
    ·exact⟨b,off,cc,h1,h2⟩
   cases hpe
   have hxat:∀{w},Step [] [] w0 w→At w pb (po+n*32) (u8s x):=fun h=>digsL_at (fun y hy=>h32 y (hPU d hdU y hy)) (hpat.step h (by simp)) hx
   have ob:=hF.step hx
   obtain⟨K',hK,hF2⟩:=ob
   refine cq<|sr<|wF 32 u220 rfl ty3 rfl<|wl ty3 rfl (hs.c0 hcn)<|wm<|wL u35 rfl<|eF<|wZ<|CW.cond rfl (fun h=>?_) (fun h=>?_)
   ·cases h
   refine ck<|sr<|wm<|wF 32 u220 rfl ty3 rfl<|wl ty3 rfl (hs.c0 hcn)<|wI u35 ty44 rfl rfl<|wR ty44 rfl hxl (hxat hs.clear)<|WL.alloc ty44 rfl hs (fun b9 w hs=>?_)
   refine WL.storeAll ty44 rfl rfl ((hxl)) ((Cells1.u8s _)) hs (by rfl) (fun w hs=>?_)
   refine wZ<|sr<|wF 0 u220 rfl ty44 rfl<|wR ty44 rfl hdl hs.a1.left<|wF 32 u220 rfl ty3 rfl<|wl ty3 rfl (hs.c1 hcn)<|wP ((n+1:Nat):Int)<|wV (run_build rfl (bld_pl hd32 _ _))<|wE rfl (run_call en118 rfl rfl) (pushplace_spec (c:=plC8 (d,n+1)) hS2 (plC8_len hd32) (plC8_c1 _) (by rw[length_map];omega) (Lives.of (L1:=T2) (Step.bT hs))) ?_
   rintro e w ⟨T3,rfl,hS3,hq⟩
   refine⟨_,rfl,?_⟩
   replace hs:=Step.bU (Step.call (L1:=T2) (Step.bT hs) hq)
   refine wZ ?_
   have ob:=hSet.look x
   obtain⟨hl1,hl2⟩:=ob
   by_cases hxg:x∈g
   ·rw[if_pos hxg] at hF2
    rw[decide_eq_true hxg] at hl2
    refine sr<|wm<|wR ty44 rfl hxl hs.a0<|wV (run_lookupE u141 (zNone _) hSet.keys hx32 hl1 hl2 rfl rfl (hs.has (b12,mapObj Mg cg) (by simp)))<|wm<|wx rfl rfl<|wx rfl rfl<|WL.alloc ty142 rfl hs (fun b10 w hs=>?_)
    refine WL.storeAll ty142 rfl rfl ((by rfl)) ((Cells1.of_all rfl)) hs (by rfl) (fun w hs=>?_)
    refine wA<|wZ<|sr<|wm<|wN rfl<|wZ<|CW.cond rfl (fun h=>?_) (fun h=>?_)
    ·cases h
    replace hs:=Step.bW hs
    refine ck<|(show _∧_ from⟨rfl,_,?_,(d,n+1)::S',g,o,T3,Mg,cg,vo,Lo,hF2,?_,?_,hnd,hgU,hSet,hS3,ho,hs,rfl,rfl,rfl,rfl,trivial⟩)
    ·exact hK
    ·intro y hy
     rcases mem_cons.1 hy with rfl | hy
     ·exact hdU
     ·exact hSU' y hy
    ·exact hlen
   ·rw[if_neg hxg] at hF2
    rw[decide_eq_false hxg] at hl2
    refine sr<|wm<|wR ty44 rfl hxl hs.a0<|wV (run_lookupE u141 (zNone _) hSet.keys hx32 hl1 hl2 rfl rfl (hs.has (b12,mapObj Mg cg) (by simp)))<|wm<|wx rfl rfl<|wx rfl rfl<|WL.alloc ty142 rfl hs (fun b10 w hs=>?_)
    refine WL.storeAll ty142 rfl rfl ((by rfl)) ((Cells1.of_all rfl)) hs (by rfl) (fun w hs=>?_)
    refine wA<|wZ<|sr<|wm<|wN rfl<|wZ<|CW.cond rfl (fun h=>?_) (fun h=>?_)
    ·replace hs:=Step.bQ hs
     refine sr<|wm<|wR ty44 rfl hxl hs.a2<|wV (run_build rfl (bld_none _))<|WL.mapPut u141 rfl rfl rfl hSet.keys hx32 hs (fun w hs=>?_)
     refine wZ ?_
     replace hs:=Step.bR hs
     refine cr<|wR ty44 rfl hxl (At.of_blk (hs.has (b9,blk 44 (u8s x)) (by simp)))<|wV (run_build rfl (bld_p0 hx32 _))<|wE rfl (run_call en118 rfl rfl) (pushplace_spec (c:=plC8 (x,0)) hS3 (plC8_len hx32) (plC8_c1 _) (by rw[length_cons,length_map];omega) (Lives.of (L1:=T3) hs)) ?_
     rintro e w ⟨T4,rfl,hS4,hq⟩
     refine⟨_,rfl,?_⟩
     replace hs:=Step.bS (Step.call (L1:=T3) hs hq)
     refine wZ<|(show _∧_ from⟨rfl,_,?_,(x,0)::(d,n+1)::S',g++[x],o,T4,_,_,vo,Lo,hF2,?_,?_,?_,?_,hSet.put hx32 cg,hS4,ho,hs,rfl,rfl,rfl,rfl,trivial⟩)
     ·exact hK
     ·intro y hy
      rcases mem_cons.1 hy with rfl | hy
      ·exact hxU
      ·rcases mem_cons.1 hy with rfl | hy
       ·exact hdU
       ·exact hSU' y hy
     ·rw[length_append,length_singleton,length_cons,length_cons];omega
     ·rw[nodup_append]
      refine⟨hnd,nodup_cons.2 ⟨by simp,nodup_nil⟩,fun a ha b hb he=>?_⟩
      rw[mem_singleton] at hb
      exact hxg (hb▸he▸ha)
     ·intro y hy
      rcases mem_append.1 hy with hy | hy
      ·exact hgU y hy
      ·rw[mem_singleton] at hy;exact hy▸hxU
    ·cases h
end
def Cov (s:AS) (t t':WS):Prop:=∃n,t'.m=t.m++n∧∀p∈n,(s.get p.1).2=0∧(p.2=true→decE (s.get p.1).1=0∧∀x∈partsD s p.1,x∈t'.m.map (·.1))
section
variable{s:AS}{rm:Rm}{t u v:WS}
theorem Cov.refl (t:WS):Cov s t t:=⟨[],by simp,fun p hp=>by cases hp⟩
theorem Cov.trans (h:Cov s t u) (k:Cov s u v):Cov s t v:=by
 obtain⟨n,h1,h2⟩:=h
 obtain⟨l,k1,k2⟩:=k
 refine⟨n++l,by rw[k1,h1,append_assoc],fun p hp=>?_⟩
 rcases mem_append.1 hp with hp | hp
 ·have ob:=h2 p hp
  obtain⟨a,b⟩:=ob
  refine⟨a,fun hd=>⟨(b hd).1,fun x hx=>?_⟩⟩
  have:=(b hd).2 x hx
  rw[k1,map_append]
  exact mem_append_left _ this
 ·exact k2 p hp
theorem Cov.mem (h:Cov s t u){d:U8} (hd:d∈t.m.map (·.1)):d∈u.m.map (·.1):=by
 obtain⟨n,h1,_⟩:=h
 rw[h1,map_append]
 exact mem_append_left _ hd
theorem seqS_cov{f:Std→WS→Int×WS}:∀{l:List Std}{t:WS},(∀x∈l,∀t,(f x t).1=0→Cov s t (f x t).2∧x.d∈(f x t).2.m.map (·.1))→(seqS f l t).1=0→Cov s t (seqS f l t).2∧∀x∈l,x.d∈(seqS f l t).2.m.map (·.1)
 | [],t,_,_=>⟨Cov.refl t,fun x hx=>by cases hx⟩
 | x::l,t,hf,he=>by
  rw[seqS] at he⊢
  by_cases c:(f x t).1≠0
  ·rw[if_pos c] at he;exact absurd he c
  ·rw[if_neg c] at he⊢
   have ob:=hf x (by simp) t (by simpa using c)
   obtain⟨h1,h2⟩:=ob
   have ob:=seqS_cov (fun y hy=>hf y (by simp[hy])) he
   obtain⟨h3,h4⟩:=ob
   refine⟨h1.trans h3,fun y hy=>?_⟩
   rcases mem_cons.1 hy with rfl | hy
   ·exact h3.mem h2
   ·exact h4 y hy
theorem standP_cov:∀(n:Nat){x:Std}{t:WS},(standP s rm n x t).1=0→Cov s t (standP s rm n x t).2∧x.d∈(standP s rm n x t).2.m.map (·.1)
 | 0,x,t,he=>by cases he
 | n+1,x,t,he=>by
  rw[standP] at he⊢
  by_cases c:(visit s rm x t).1≠0
  ·rw[if_pos c] at he;exact absurd he c
  ·rw[if_neg c] at he⊢
   have c0:(visit s rm x t).1=0:=by simpa using c
   have hm:=visit_m c0
   obtain⟨h1,h2⟩:=seqS_cov (s:=s) (f:=fun y u=>standP s rm n y (push y u)) (fun y hy u hu=>by
    have h3:=standP_cov n (x:=y) (t:=push y u) hu
    refine⟨?_,h3.2⟩
    have ob:=h3.1
    obtain⟨l,h4,h5⟩:=ob
    exact⟨l,by rw[h4,push_m],h5⟩) he
   have hin:x.d∈(visit s rm x t).2.2.m.map (·.1):=by rw[hm,map_append];simp
   refine⟨?_,h1.mem hin⟩
   obtain⟨l,h4,h5⟩:=h1
   have ob:=visit_ok c0
   obtain⟨_,_,g0,hk⟩:=ob
   refine⟨(x.d,x.dir)::l,by rw[h4,hm,append_assoc];rfl,fun p hp=>?_⟩
   rcases mem_cons.1 hp with rfl | hp
   ·refine⟨g0,fun hd=>?_⟩
    rcases hk with⟨_,e0,ek⟩ | ⟨e0,_⟩
    ·refine⟨e0,fun y hy=>?_⟩
     have ob:=mem_map.1 hy
     obtain⟨e,he',rfl⟩:=ob
     exact h2 (kidOf x e) (by rw[ek];exact mem_map.2 ⟨e,he',rfl⟩)
    ·rw[e0] at hd;cases hd
   ·exact h5 p hp
theorem ordM_head{d:U8} (b:Bool) (n:List (List UInt8×Bool)):(ordM ((d,b)::n))[0]?=some d:=by
 have h:∀(n:List (List UInt8×Bool)) (o:List (List UInt8)),o[0]?=some d→(n.foldl (fun o p=>if p.1∈o then o else o++[p.1]) o)[0]?=some d:=by
  intro n
  induction n with
  | nil=>exact fun o h=>h
  | cons p n ih=>
   intro o h
   rw[foldl_cons]
   refine ih _ ?_
   split
   ·exact h
   ·rw[List.getElem?_append_left (List.getElem?_eq_some_iff.1 h).1];exact h
 show(((d,b)::n).foldl _ [])[0]?=_
 rw[foldl_cons]
 exact h n _ (by simp)
structure Met (s:AS) (d:(List UInt8)) (m:List ((List UInt8)×Bool)):Prop where
 head:(ordM m)[0]?=some d
 got:∀p∈m,(s.get p.1).2=0
 len:∀e∈ordM m,e.length=32
 sub:∀e∈ordM m,∀x∈partsM s m e,x∈ordM m
theorem runs_met{d:U8}{t:WS} (hd:d.length=32) (h:runs s rm [rootS d] ws0=(0,t)):Met s d t.m:=by
 rw[runs_root] at h
 have h0:(standP s rm 34 (rootS d) ws0).1=0:=by rw[h]
 have h32:=root_M32 hd h0
 have ob:=root_split h0
 obtain⟨t1,h1,_,h2⟩:=ob
 have hc:=(standP_cov 34 h0).1
 rw[h] at hc h32
 obtain⟨n,hn,hp⟩:=hc
 have hn':t.m=n:=by rw[hn];rfl
 rw[←hn'] at hp
 have hle:∀e∈ordM t.m,e.length=32:=fun e he=>by
  rw[ordM_mem] at he
  have ob:=mem_map.1 he
  obtain⟨p,hp,rfl⟩:=ob
  exact h32 p hp
 refine⟨?_,fun p hpm=>(hp p hpm).1,hle,fun e he x hx=>?_⟩
 ·have hs:(seqS (fun y u=>stand s rm 33 y u) (kids (rootS d) (s.get d).1) t1).1=0:=by rw[←h2];exact h0
  obtain⟨⟨l,hl,_⟩,_⟩:=seqS_cov (s:=s) (f:=fun y u=>stand s rm 33 y u) (fun y hy u hu=>by
   have h3:=standP_cov 33 (x:=y) (t:=push y u) hu
   have ob:=h3.1
   obtain⟨l,h4,h5⟩:=ob
   exact⟨⟨l,by rw[stand,h4,push_m],h5⟩,h3.2⟩) hs
  rw[←h2,h,h1] at hl
  rw[hl]
  exact ordM_head true l
 ·unfold partsM at hx
  split at hx
  ·rename_i hm
   rw[ordM_mem]
   exact((hp _ hm).2 rfl).2 x hx
  ·cases hx
theorem Met.goes{d:U8}{m:List (List UInt8×Bool)} (h:Met s d m):∃gf of k,Goes (partsM s m) [d] [] [] gf of k:=by
 obtain⟨g,o,k,hG⟩:=goes_all (P:=partsM s m) (U:=ordM m) h.sub _ [d] [] [] (Nat.le_refl _) fun x hx=>by
  obtain rfl:=mem_singleton.1 hx
  exact mem_of_getElem? h.head
 exact⟨g,o,k,hG⟩
end
section
variable{br:Nat}{s:AS}{D R:OL}{d:U8}{w0:World}
theorem rraw_abs (hT:RRep br s D R) (ok:s.Ok) (hw:Lives (R++D) w0) (hd:d.length=32):CP 72 #[pt br,.agg (u8s d).toArray] w0 fun e w'=>∃v' Lv',e=.returned (.tuple #[v',.bool (s.has d)])∧OwnSl 5 1 v' (s.raw d).length (u8s (s.raw d)) Lv'∧Step [] Lv' w0 w':=by
 have ob:=hT.open ok hw
 obtain⟨a,c,Lv,T,o⟩:=ob
 exact rraw_spec o ok hd
end
theorem get_raw{s:AS}{d:U8} (h:(s.get d).2=0):s.raw d=(s.get d).1:=by
 unfold AS.get at h⊢
 unfold AS.raw
 cases hx:findX d s.X with
 | none=>rfl
 | some b=>
  rw[hx] at h
  simp only at h⊢
  by_cases hf:frontL b.x s.k=d
  ·rw[if_pos hf]
  ·rw[if_neg hf] at h;cases h
section
variable{S:List Nat}{a b q:Nat×Obj}{Lo X:OL}{w w':World}
theorem Step.pIn (h:Step S (a::(Lo++X)) w w'):Step S (Lo++(a::X)) w w':=h.perm perm_middle.symm
theorem Step.pOut (h:Step S (Lo++(a::X)) w w'):Step S (Lo++X) w w':=Step.tail (p:=a) (h.perm perm_middle)
end
section
variable{br:Nat}{s:AS}{D R:OL}{d:U8}{w0:World}{m:List (List UInt8×Bool)}{v:Value}
set_option maxHeartbeats 8000000 in
theorem partsR_spec (hR:RRep br s D R) (ok:s.Ok) (hw:Lives (R++D) w0) (hv:Sl w0 33 v m.length (rowsSt m)) (h32:∀p∈m,p.1.length=32) (hm:m.length≤65536) (hgot:(d,true)∈m→(s.get d).2=0) (hd:d.length=32) :
  CP 158 #[pt br,v,.agg (u8s d).toArray] w0 fun e w'=>∃u Lu,e=.returned u∧OwnSl 44 32 u (partsM s m d).length (digsL (partsM s m d)) Lu∧Step [] Lu w0 w':=by
 have hs:Step [] [] w0 w0:=Step.refl w0
 have hdl:(u8s d).length=32:=by rw[u8s,length_map,hd]
 have hgl:=get_len ok d
 have ob:=hv.form
 obtain⟨a,c,rfl⟩:=ob
 refine calls (n:=66) Tryz.func158 rfl rfl rfl ?_
 refine sr<|WL.box (cs:=u8s d) rfl rfl rfl hs (fun b5 w hs=>?_)
 refine wA<|wZ<|sr<|wA<|wZ<|CW.seqM (fun f w=>Step [] [(b5,blk 44 (u8s d))] w0 w∧Holds f [(0,pt br),(5,pt b5),(7,.bool (decide ((d,true)∈m)))]) ?_ ?_
 ·refine sr<|wA<|wZ<|cB<|CW.loop (fun z f w'=>∃i r,i≤m.length∧z=m.length - i∧decide ((d,true)∈m.take i)=r∧Step [] [(b5,blk 44 (u8s d))] w0 w'∧Holds f [(0,pt br),(1,.slice a m.length c),(5,pt b5),(7,.bool r),(8,.int .i64 (i:Nat))]) (m:=m.length) ?_ ?_
  ·exact⟨0,false,Nat.zero_le _,rfl,by simp,hs,rfl,rfl,rfl,rfl,rfl,trivial⟩
  clear hs
  rintro z f w ⟨i,r,hi,rfl,hr,hs,hf⟩
  have ob:=hf.chain
  obtain⟨g,rfl⟩:=ob
  by_cases hlt:i<m.length
  ·have ob:∃p,m[i]?=some p:=⟨_,getElem?_eq_getElem hlt⟩
   obtain⟨p,hp⟩:=ob
   obtain⟨pd,pb⟩:=p
   have hp32:=h32 _ (mem_of_getElem? hp)
   have hpl:(u8s pd).length=32:=by rw[u8s,length_map,hp32]
   have htk:m.take (i+1)=m.take i++[(pd,pb)]:=by rw[take_add_one,hp];rfl
   obtain⟨ba,oa,ca,hae,hat⟩:∃ba oa ca,Value.slice a m.length c=.slice (some ⟨ba,oa,none⟩) m.length ca∧At w0 ba oa (rowsSt m):=by
    obtain⟨_,⟨_,_,h1,h2⟩ | ⟨b,off,cc,h1,h2⟩⟩:=hv
    ·omega
    ·exact⟨b,off,cc,h1,h2⟩
   cases hae
   have hrow:∀{w},Step [] [] w0 w→At w ba (oa+i*33) (stC8 (pd,pb)):=fun h=>rowsSt_at h32 (hat.step h (by simp)) hp
   have hbl:(stC8 (pd,pb))[32]?=some (.bool pb):=by show(u8s pd++[Value.bool pb])[32]?=_;rw[getElem?_append_right (by omega),hpl];rfl
   have hrd:∀{w},Step [] [] w0 w→At w ba (oa+i*33) (u8s pd):=fun h=>(hrow h).left
   refine cq<|sr<|wm<|wm<|wL u133 rfl<|lT<|wZ<|CW.cond rfl (fun h=>?_) (fun h=>?_)
   ·cases r with
    | true=>
     refine ck<|cq<|cB<|CW.quiet mixedP (by kernel_rfl) hs ?_
     refine qm<|qm<|qz<|qz<|qz<|qz<|qz<|qz<|qz<|qz<|qz<|qz<|qz<|qz ?_
     refine qz<|qz<|qT<|qA<|QL.nil (fun w hs=>?_)
     refine cr<|wm<|wP ((i+1:Nat):Int)<|wA<|wZ<|(show _∧_ from⟨rfl,_,?_,i+1,true,hlt,rfl,?_,hs,rfl,rfl,rfl,rfl,rfl,trivial⟩)
     ·omega
     ·rw[htk];simp only[decide_eq_true_eq] at hr⊢;exact mem_append_left _ hr
    | false=>
     have hno:(d,true)∉m.take i:=by simpa using hr
     cases pb with
     | false=>
      refine ck<|cq<|cB<|CW.quiet mixedP (by kernel_rfl) hs ?_
      refine qm<|qm<|qy<|qm<|qy<|qm ?_
      refine qy ?_;(first | refine QL.val rfl (fun w hs=>run_ixSlN u133 ty137 rfl rfl (by omega)) ?_ | refine QL.val rfl (fun w hs=>run_ixSl u133 ty137 rfl rfl (by omega)) ?_)
      refine qy<|qF 32 u137 rfl ty4 rfl<|qy<|qL ty4 rfl (fun w hs=>(hrow hs.clear).cell (j:=32) hbl)<|qy<|qm<|qz<|qz<|qz<|qz<|qz<|qz<|qz ?_
      refine qy ?_;(first | refine QL.val rfl (fun w hs=>run_pickT rfl) ?_ | refine QL.val rfl (fun w hs=>run_pickF rfl) ?_)
      refine qP<|qA<|QL.nil (fun w hs=>?_)
      refine cr<|wm<|wP ((i+1:Nat):Int)<|wA<|wZ<|(show _∧_ from⟨rfl,_,?_,i+1,false,hlt,rfl,?_,hs,rfl,rfl,rfl,rfl,rfl,trivial⟩)
      ·omega
      ·rw[htk,decide_eq_false];simp[hno]
     | true=>
      by_cases hed:pd=d
      ·refine ck<|cq<|cB<|CW.quiet mixedP (by kernel_rfl) hs ?_
       refine qm<|qm<|qy<|qm<|qy<|qm ?_
       refine qy ?_;(first | refine QL.val rfl (fun w hs=>run_ixSlN u133 ty137 rfl rfl (by omega)) ?_ | refine QL.val rfl (fun w hs=>run_ixSl u133 ty137 rfl rfl (by omega)) ?_)
       refine qy<|qF 32 u137 rfl ty4 rfl<|qy<|qL ty4 rfl (fun w hs=>(hrow hs.clear).cell (j:=32) hbl)<|qy<|qm<|qy<|qm<|qy<|qm ?_
       refine qy ?_;(first | refine QL.val rfl (fun w hs=>run_ixSlN u133 ty137 rfl rfl (by omega)) ?_ | refine QL.val rfl (fun w hs=>run_ixSl u133 ty137 rfl rfl (by omega)) ?_)
       refine qy<|qF 0 u137 rfl ty44 rfl<|qy<|qV (fun w hs=>run_loadN ty44 rfl hpl (hrd hs.clear))<|qy<|qV (fun w hs=>run_loadN ty44 rfl hdl hs.a0)<|qy<|qV (fun w hs=>run_bT (run_eqDig hp32 hd rfl rfl) hed) ?_
       refine qy ?_;(first | refine QL.val rfl (fun w hs=>run_pickT rfl) ?_ | refine QL.val rfl (fun w hs=>run_pickF rfl) ?_)
       refine qP<|qA<|QL.nil (fun w hs=>?_)
       refine cr<|wm<|wP ((i+1:Nat):Int)<|wA<|wZ<|(show _∧_ from⟨rfl,_,?_,i+1,true,hlt,rfl,?_,hs,rfl,rfl,rfl,rfl,rfl,trivial⟩)
       ·omega
       ·rw[htk,decide_eq_true];simp[hed]
      ·refine ck<|cq<|cB<|CW.quiet mixedP (by kernel_rfl) hs ?_
       refine qm<|qm<|qy<|qm<|qy<|qm ?_
       refine qy ?_;(first | refine QL.val rfl (fun w hs=>run_ixSlN u133 ty137 rfl rfl (by omega)) ?_ | refine QL.val rfl (fun w hs=>run_ixSl u133 ty137 rfl rfl (by omega)) ?_)
       refine qy<|qF 32 u137 rfl ty4 rfl<|qy<|qL ty4 rfl (fun w hs=>(hrow hs.clear).cell (j:=32) hbl)<|qy<|qm<|qy<|qm<|qy<|qm ?_
       refine qy ?_;(first | refine QL.val rfl (fun w hs=>run_ixSlN u133 ty137 rfl rfl (by omega)) ?_ | refine QL.val rfl (fun w hs=>run_ixSl u133 ty137 rfl rfl (by omega)) ?_)
       refine qy<|qF 0 u137 rfl ty44 rfl<|qy<|qV (fun w hs=>run_loadN ty44 rfl hpl (hrd hs.clear))<|qy<|qV (fun w hs=>run_loadN ty44 rfl hdl hs.a0)<|qy<|qV (fun w hs=>run_bF (run_eqDig hp32 hd rfl rfl) hed) ?_
       refine qy ?_;(first | refine QL.val rfl (fun w hs=>run_pickT rfl) ?_ | refine QL.val rfl (fun w hs=>run_pickF rfl) ?_)
       refine qP<|qA<|QL.nil (fun w hs=>?_)
       refine cr<|wm<|wP ((i+1:Nat):Int)<|wA<|wZ<|(show _∧_ from⟨rfl,_,?_,i+1,false,hlt,rfl,?_,hs,rfl,rfl,rfl,rfl,rfl,trivial⟩)
       ·omega
       ·rw[htk,decide_eq_false];simp only[mem_append,hno,mem_singleton,Prod.mk.injEq,and_true,false_or];exact fun h=>hed h.symm
   ·cases h
  ·obtain rfl:i=m.length:=by omega
   rw[take_length] at hr
   rw[←hr]
   refine cq<|sr<|wm<|wm<|wL u133 rfl<|lF<|wZ<|CW.cond rfl (fun h=>?_) (fun h=>?_)
   ·cases h
   refine CW.exit ?_
   exact⟨rfl,hs,rfl,rfl,rfl,trivial⟩
 clear hs
 rintro f w ⟨hs,hf⟩
 have ob:=hf.chain
 obtain⟨g,rfl⟩:=ob
 by_cases hdm:(d,true)∈m
 ·rw[decide_eq_true hdm]
  have hraw:=get_raw (hgot hdm)
  have hpm:partsM s m d=(decL (s.get d).1).map (·.dig):=by rw[partsM,if_pos hdm];rfl
  refine cq<|sr<|wm<|wN rfl<|wZ<|CW.cond rfl (fun h=>?_) (fun h=>?_)
  ·cases h
  refine ck<|sr<|wm<|wR ty44 rfl hdl hs.a0<|wE rfl (run_call en72 rfl rfl) (rraw_abs hR ok (hw.after hs.clear) hd) ?_
  rintro e w ⟨vb,Lb,rfl,hvb,hq⟩
  refine⟨_,rfl,?_⟩
  replace hs:=Step.call0 hs hq
  refine wm<|wx rfl rfl<|wx rfl rfl<|wA<|wA<|wZ ?_
  rw[hraw] at hvb
  refine sr<|wm<|wE rfl (run_call en103 rfl rfl) (decodeR_at _ (hvb.sl hs) (hvb.room (by decide)) (by omega)) ?_
  rintro e w ⟨u,Le,rfl,hu,hoks,hle,hq⟩
  refine⟨_,rfl,?_⟩
  replace hs:=Step.call0 hs hq
  refine wm<|wx rfl rfl<|wx rfl rfl<|wA<|wA<|wZ ?_
  have ob:∃l,decL (s.get d).1=l:=⟨_,rfl⟩
  obtain⟨l,hll⟩:=ob
  rw[hll] at hu hoks hle hpm
  have ob:=hu.form
  obtain⟨ua,uc,rfl⟩:=ob
  refine sr<|wA<|wZ<|cq<|sr<|wA<|wZ<|cB<|CW.loop (fun z f w'=>∃i vp LP,i≤l.length∧z=l.length - i∧OwnSl 44 32 vp i (digsL ((l.take i).map (·.dig))) LP∧Step [] (LP++(Le++(Lb++[(b5,blk 44 (u8s d))]))) w0 w'∧Holds f [(0,pt br),(5,pt b5),(11,.slice ua l.length uc),(13,vp),(14,.int .i64 (i:Nat))]) (m:=l.length) ?_ ?_
  ·exact⟨0,_,[],Nat.zero_le _,rfl,OwnSl.nil _ _,hs,rfl,rfl,rfl,rfl,rfl,trivial⟩
  clear hs
  rintro z f w ⟨i,vp,LP,hil,rfl,hvp,hs,hf⟩
  have ob:=hf.chain
  obtain⟨g,rfl⟩:=ob
  by_cases hlt:i<l.length
  ·have ob:=hu.some1 (by omega)
   obtain⟨bu,cu,more,hu1,hu2,hu3⟩:=ob
   cases hu1
   subst hu2
   have ob:∃e,l[i]=e:=⟨_,rfl⟩
   obtain⟨e,he⟩:=ob
   have heo:=hoks e (he▸getElem_mem hlt)
   have hel:(u8s e.dig).length=32:=by rw[u8s,length_map,heo.1]
   have hent:At w bu (0+i*34) e.cells:=by
    have h2:=(At.of_blk (hs.has (bu,blk 115 (rows l++more)) (by simp))).left.ent hoks hlt
    rw[he] at h2;exact h2
   have hen2:At w bu (0+i*34+2) (u8s e.dig):=hent.drop 2
   refine cq<|sr<|wm<|wm<|wL u116 rfl<|lT<|wZ<|CW.cond rfl (fun h=>?_) (fun h=>?_)
   ·refine ck<|cq<|cB<|cr<|wm<|wm<|wm<|wI u116 ty115 rfl rfl<|wF 2 u115 rfl ty44 rfl<|wR ty44 rfl hel hen2<|WL.buildSlice (cs:=u8s e.dig) u35 ty44 rfl (by decide) rfl (filled1 hel rfl) rfl hs (fun b63 w hs=>?_)
    have hsl63:Sl w 32 (.slice (some ⟨b63,0,none⟩) 1 1) 1 (u8s e.dig):=.own1 hs (by rw[hel])
    replace hs:=Step.pIn hs
    refine WL.append u35 u35 ty44 rfl (by decide) rfl rfl (hvp) (hs) (hsl63) (Cells1.u8s _) (by omega) rfl (fun v64 Lv64 w hv64 hs=>?_)
    replace hs:=Step.pOut hs
    refine wA<|wZ<|cr<|wm<|wP ((i+1:Nat):Int)<|wA<|wZ ?_
    have hv2:OwnSl 44 32 v64 (i+1) (digsL ((l.take (i+1)).map (·.dig))) Lv64:=by
     rw[take_succ_eq_append_getElem hlt,he,map_append,map_singleton,digsL_snoc];exact hv64
    refine(show _∧_ from⟨rfl,_,?_,i+1,v64,Lv64,hlt,rfl,hv2,hs,rfl,rfl,rfl,rfl,rfl,trivial⟩)
    omega
   ·cases h
  ·obtain rfl:i=l.length:=by omega
   rw[take_length] at hvp
   refine cq<|sr<|wm<|wm<|wL u116 rfl<|lF<|wZ<|CW.cond rfl (fun h=>?_) (fun h=>?_)
   ·cases h
   refine CW.exit<|sr<|wm<|wA<|wZ<|CW.ret ?_
   refine fin_ret1 rfl ?_
   exact⟨_,LP,rfl,by rw[hpm,length_map];exact hvp,Step.dropR (L1:=LP) hs⟩
 ·rw[decide_eq_false hdm]
  refine cq<|sr<|wm<|wN rfl<|wZ<|CW.cond rfl (fun h=>?_) (fun h=>?_)
  ·refine sr<|wA<|wZ<|CW.ret ?_
   refine fin_ret1 rfl ?_
   exact⟨_,[],rfl,by rw[partsM,if_neg hdm];exact OwnSl.nil _ _,hs.clear⟩
  ·cases h
end
theorem Goes.split{P:U8→List (List UInt8)}{x:U8}{ds g o g' o':List (List UInt8)}{k:Nat} (h:Goes P (x::ds) g o g' o' k):∃g2 o2 k1 k2,Goes P [x] g o g2 o2 k1∧Goes P ds g2 o2 g' o' k2∧k1≤k∧k2≤k:=by
 cases h with
 | skip hx h=>exact⟨g,o,1,_,.skip hx (.nil _ _),h,by omega,by omega⟩
 | go hx h1 h2=>exact⟨_,_,_,_,.go hx h1 (.nil _ _),h2,by omega,by omega⟩
theorem Goes.len{P:U8→List (List UInt8)}{ds g o g' o':List (List UInt8)}{k:Nat} (h:Goes P ds g o g' o' k) (j:Nat) (hl:o.length+j≤g.length):o'.length+j≤g'.length:=by
 have ob:=h.ext
 obtain⟨n,t,rfl,rfl,hp⟩:=ob
 have:=hp.length_eq
 rw[length_append,length_append]
 omega
section
variable{S:List Nat}{a b q:Nat×Obj}{Lg Lo Lu A X B:OL}{w w':World}
theorem Step.fin0{L D L1:OL}{w0 w:World} (hw:Lives (L++D) w0) (h:Step ((L++D).map (·.1)) (L1++D) w0 w):Step (L.map (·.1)) L1 w0 w:=by
 have:=Step.fin (M:=[]) (L1:=L1) (D1:=[]) hw h
 simpa using this
theorem Step.tA (h:Step S (a::((b::(Lg++Lo))++B)) w w'):Step S (a::b::(Lg++(Lo++B))) w w':=by
 have e:(b::(Lg++Lo))++B=b::(Lg++(Lo++B)):=by simp[append_assoc]
 rw[e] at h;exact h
theorem Step.tC (h:Step S ((a::Lu)++((b::(Lg++Lo))++B)) w w'):Step S (a::b::(Lo++(Lg++(Lu++B)))) w w':=h.perm (by classical exact perm_iff_count.2 fun x=>by simp only[count_append,count_cons];omega)
theorem Step.tE (h:Step S (Lu++(b::a::(Lg++(Lo++B)))) w w'):Step S ((a::Lu)++((b::(Lg++Lo))++B)) w w':=h.perm (by classical exact perm_iff_count.2 fun x=>by simp only[count_append,count_cons];omega)
theorem Step.tF (h:Step S (b::a::(Lo++(Lg++(Lu++B)))) w w'):Step S ((b::(Lg++Lo))++B) w w':=Step.dropL (L1:=a::Lu) (h.perm (L':=(a::Lu)++((b::(Lg++Lo))++B)) (by classical exact perm_iff_count.2 fun x=>by simp only[count_append,count_cons];omega))
theorem Step.lvB (h:Step S (b::a::(Lg++(Lo++B))) w w'):Lives B w':=Lives.of (L2:=b::a::(Lg++Lo)) (h.perm (by classical exact perm_iff_count.2 fun x=>by simp only[count_append,count_cons];omega))
end
def GRep (bG br:Nat) (vL:Value) (g o:List (List UInt8)) (W:(List (Nat×Obj))):Prop:=
 ∃vg Lg vo Lo,W=(bG,blk 225 [.pointer (some ⟨br,0,none⟩),vL,vg,vo])::(Lg++Lo)∧OwnSl 44 32 vg g.length (digsL g) Lg∧OwnSl 44 32 vo o.length (digsL o) Lo
section
variable{br bG:Nat}{s:AS}{D R LvL:OL}{r:U8}{m:List (List UInt8×Bool)}{vL:Value}
set_option maxHeartbeats 16000000 in
theorem to_spec (hR:RRep br s D R) (ok:s.Ok) (hM:Met s r m) (hL:OwnSl 137 33 vL m.length (rowsSt m) LvL) (hLD:∀p∈LvL,p∈D) (hm:m.length≤65536) (h32m:∀p∈m,p.1.length=32) (hpl:∀d,(partsM s m d).length<1000000000) :
  ∀(k:Nat){d:U8}{g o g' o':List (List UInt8)}{W:OL}{w0:World},Goes (partsM s m) [d] g o g' o' k→d∈ordM m→g.Nodup→(∀x∈g,x∈ordM m)→o.length≤g.length→GRep bG br vL g o W→Lives (W++(R++D)) w0→
  CP 120 #[pt bG,.agg (u8s d).toArray] w0 fun e w'=>∃W',e=.returned (.tuple #[])∧GRep bG br vL g' o' W'∧Step (W.map (·.1)) W' w0 w':=by
 intro k
 induction k using Nat.strongRecOn with
 | ind k ih=>
 intro d g o g' o' W w0 hG hdU hnd hgU hol hW hw
 have hw0:=hw
 have hd32:=hM.len d hdU
 have hdl:(u8s d).length=32:=by rw[u8s,length_map,hd32]
 have hgl:=nodup_len hnd hgU
 have hom:=ordM_len m
 have hW0:=hW
 obtain⟨vg,Lg,vo,Lo,hWe,hvg,hvo⟩:=hW
 subst hWe
 have ob:∃B,R++D=B:=⟨_,rfl⟩
 obtain⟨B,hB⟩:=ob
 rw[hB] at hw
 have hs:Step (List.map (·.1) (((bG,blk 225 [pt br,vL,vg,vo])::(Lg++Lo))++B)) (((bG,blk 225 [pt br,vL,vg,vo])::(Lg++Lo))++B) w0 w0:=hw
 have ob:∃S,List.map (·.1) (((bG,blk 225 [pt br,vL,vg,vo])::(Lg++Lo))++B)=S:=⟨_,rfl⟩
 obtain⟨S,hS⟩:=ob
 rw[hS] at hs
 have ob:=hvg.form
 obtain⟨ga,gc,rfl⟩:=ob
 have ob:=hL.form
 obtain⟨la,lc,rfl⟩:=ob
 have hfin:∀{W':OL}{w:World},Step S (W'++B) w0 w→Step (List.map (·.1) ((bG,blk 225 [pt br,.slice la m.length lc,.slice ga g.length gc,vo])::(Lg++Lo))) W' w0 w:=fun h=>Step.fin0 hw (by rw[hS];exact h)
 have hhas:∀{w:World},Step S ((bG,blk 225 [pt br,.slice la m.length lc,.slice ga g.length gc,vo])::(Lg++(Lo++B))) w0 w→CP 66 #[.slice ga g.length gc,.agg (u8s d).toArray] w (Ret0 (.bool (decide (d∈g))) w):=fun h=>hasR_spec (Dgs.own hvg (fun p hp=>h.has p (by simp[hp])) (fun x hx=>hM.len x (hgU x hx)) (by omega)) hd32
 have hDB:∀p∈D,p∈B:=fun p hp=>hB▸mem_append_right _ hp
 refine calls (n:=54) Tryz.func120 rfl rfl rfl ?_
 refine sr<|WL.box (cs:=u8s d) rfl rfl rfl hs (fun b3 w hs=>?_)
 refine wZ ?_
 replace hs:=Step.tA hs
 by_cases hdg:d∈g
 ·have hr:g'=g∧o'=o:=by
   cases hG with
   | skip _ h=>cases h;exact⟨rfl,rfl⟩
   | go h _ _=>exact absurd hdg h
  rw[decide_eq_true hdg] at hhas
  refine cq<|cq<|CW.quiet mixedP (by kernel_rfl) hs ?_
  refine qm<|qn rfl<|qF 2 u225 rfl ty35 rfl<|qL ty35 rfl (fun w hs=>hs.c1 (v:=.slice ga g.length gc) rfl)<|qV (fun w hs=>run_loadN ty44 rfl hdl hs.a0)<|QL.enter rfl (fun w=>run_call en66 rfl rfl) (fun w hs=>hhas hs.tail) ?_
  refine QL.nil (fun w hs=>?_)
  refine CW.cond rfl (fun h=>?_) (fun h=>?_)
  ·skip
   refine CW.ret ?_
   refine fin_ret0 rfl ?_
   exact⟨_,rfl,by rw[hr.1,hr.2];exact hW0,hfin (by rw[cons_append,append_assoc];exact hs.tail)⟩
  ·cases h
 ·obtain⟨g1,o1,k1,hg1,hg',ho',hk1⟩:∃g1 o1 k1,Goes (partsM s m) (partsM s m d) (g++[d]) o g1 o1 k1∧g'=g1∧o'=o1++[d]∧k1<k:=by
   cases hG with
   | skip h _=>exact absurd h hdg
   | go _ h1 h2=>cases h2;exact⟨_,_,_,h1,rfl,rfl,by omega⟩
  rw[decide_eq_false hdg] at hhas
  refine cq<|cq<|CW.quiet mixedP (by kernel_rfl) hs ?_
  refine qm<|qn rfl<|qF 2 u225 rfl ty35 rfl<|qL ty35 rfl (fun w hs=>hs.c1 (v:=.slice ga g.length gc) rfl)<|qV (fun w hs=>run_loadN ty44 rfl hdl hs.a0)<|QL.enter rfl (fun w=>run_call en66 rfl rfl) (fun w hs=>hhas hs.tail) ?_
  refine QL.nil (fun w hs=>?_)
  refine CW.cond rfl (fun h=>?_) (fun h=>?_)
  ·cases h
  refine ck<|CW.seqM (fun f w=>∃vg' Lg',OwnSl 44 32 vg' (g++[d]).length (digsL (g++[d])) Lg'∧Step S ((bG,blk 225 [pt br,.slice la m.length lc,vg',vo])::(b3,blk 44 (u8s d))::(Lg'++(Lo++B))) w0 w∧Holds f [(0,pt bG),(3,pt b3)]) ?_ ?_
  ·skip
   refine CW.any (A:=fun w=>Step S [(b3,blk 44 (u8s d))] w0 w) (C:=fun w=>Step S [(b3,blk 44 (u8s d)),(bG,blk 225 [pt br,.slice la m.length lc,.slice ga g.length gc,vo])] w0 w) 10 11 mixedP rfl ?_
   replace hs:=hs.drew
   refine aM 0 rfl<|aM 1 rfl<|aN 2 rfl rfl<|aF 3 rfl 2 u225 rfl ty35 rfl<|aL 4 rfl ty35 rfl (fun w hs=>hs.c1 rfl)<|aV 5 rfl (fun w hs=>run_loadN ty44 rfl hdl hs.a0)<|AL.one 6 (by kernel_rfl) rfl (by exact Step.dropR (L1:=[(b3,_)]) hs) (by exact Step.dropR (L1:=[_,_]) hs) ?_
   refine WL.buildSlice (cs:=u8s d) u35 ty44 rfl (by decide) rfl (filled1 hdl rfl) rfl hs (fun b18 w hs=>?_)
   have hsl18:Sl w 32 (.slice (some ⟨b18,0,none⟩) 1 1) 1 (u8s d):=.own1 hs (by rw[hdl])
   replace hs:=Step.in3 hs
   refine wZ<|⟨rfl,?_⟩
   refine AL.one 7 (by kernel_rfl) rfl (by exact Step.dropR (L1:=[(b3,_)]) (hs.dropL (L1:=Lg)).tail) (by exact Step.dropR (L1:=[_,_]) (hs.dropL (L1:=Lg)).tail) ?_
   refine WL.append u35 u35 ty44 rfl (by decide) rfl rfl (hvg) (hs) (hsl18) (Cells1.u8s _) (by omega) rfl (fun v19 Lv19 w hv19 hs=>?_)
   replace hs:=Step.out3 hs
   refine wZ<|⟨rfl,?_⟩
   refine AL.valA 8 rfl (by kernel_rfl) rfl (fun w hs=>run_nilCheck rfl) ?_
   refine aF 9 rfl 2 u225 rfl ty35 rfl<|AL.one 10 (by kernel_rfl) rfl (by exact Step.dropR (L1:=[(b3,_)]) hs) (by exact Step.dropR (L1:=[_,_]) hs) ?_
   refine ws1 ty35 rfl rfl (hv19.one) (hs.swap) (fun w hs=>?_)
   refine wZ<|⟨rfl,?_⟩
   refine AL.relax (by kernel_rfl) ?_
   refine AL.end (by kernel_rfl) (by exact Step.dropR (L1:=[(b3,_)]) hs.tail) (trivial) ?_
   exact⟨rfl,v19,Lv19,by rw[length_append,digsL_snoc];exact hv19,hs,rfl,rfl,trivial⟩
  clear hs
  rintro f w ⟨vg',Lg',hvg',hs,hf⟩
  have ob:=hf.chain
  obtain⟨gg,rfl⟩:=ob
  refine CW.seqM (fun f w=>∃u Lu,OwnSl 44 32 u (partsM s m d).length (digsL (partsM s m d)) Lu∧Step S (((b3,blk 44 (u8s d))::Lu)++(((bG,blk 225 [pt br,.slice la m.length lc,vg',vo])::(Lg'++Lo))++B)) w0 w∧Holds f [(0,pt bG),(3,pt b3),(4,u)]) ?_ ?_
  ·have hpr:=fun{w:World} (h:Step S ((bG,blk 225 [pt br,.slice la m.length lc,vg',vo])::(b3,blk 44 (u8s d))::(Lg'++(Lo++B))) w0 w)=>partsR_spec (w0:=w) (d:=d) hR ok (by rw[hB];exact Step.lvB h) (hL.slH (fun p hp=>h.has p (by simp[hDB p (hLD p hp)]))) h32m hm (fun h=>hM.got _ h) hd32
   refine CW.any (A:=fun w=>Step S [(bG,blk 225 [pt br,.slice la m.length lc,vg',vo]),(b3,blk 44 (u8s d))] w0 w) (C:=fun w=>Step S [(bG,blk 225 [pt br,.slice la m.length lc,vg',vo]),(b3,blk 44 (u8s d))] w0 w) 1000000 11 mixedP rfl ?_
   replace hs:=hs.drew
   refine aM 0 rfl<|aN 1 rfl rfl<|aF 2 rfl 0 u225 rfl ty40 rfl<|aL 3 rfl ty40 rfl (fun w hs=>hs.c0 (v:=pt br) rfl)<|aM 4 rfl<|aN 5 rfl rfl<|aF 6 rfl 1 u225 rfl ty133 rfl<|aL 7 rfl ty133 rfl (fun w hs=>hs.c0 (v:=.slice la m.length lc) rfl)<|aV 8 rfl (fun w hs=>run_loadN ty44 rfl hdl hs.a1)<|AL.one 9 (by kernel_rfl) rfl (by exact Step.dropR (L1:=[_,_]) hs) (by exact Step.dropR (L1:=[_,_]) hs) ?_
   refine wE rfl (run_call en158 rfl rfl) (hpr hs) ?_
   rintro e w ⟨u,Lu,rfl,hu,hq⟩
   refine⟨_,rfl,?_⟩
   replace hs:=Step.call0 hs hq
   refine wZ<|⟨rfl,?_⟩
   refine aA 10 rfl<|AL.end (by kernel_rfl) (by exact Step.dropR (L1:=[_,_]) (hs.dropL (L1:=Lu))) (by exact Step.dropR (L1:=[_,_]) (hs.dropL (L1:=Lu))) ?_
   exact⟨rfl,u,Lu,hu,Step.tE hs,rfl,rfl,rfl,trivial⟩
  clear hs
  rintro f w ⟨u,Lu,hu,hs,hf⟩
  have ob:=hf.chain
  obtain⟨gg,rfl⟩:=ob
  have ob:∃l,partsM s m d=l:=⟨_,rfl⟩
  obtain⟨l,hl⟩:=ob
  have hll:=hpl d
  rw[hl] at hu hg1 hll
  have hlU:∀x∈l,x∈ordM m:=fun x hx=>hM.sub d hdU x (hl▸hx)
  have ob:=hu.form
  obtain⟨ua,uc,rfl⟩:=ob
  have hnd1:(g++[d]).Nodup:=by
   rw[nodup_append]
   refine⟨hnd,nodup_cons.2 ⟨by simp,nodup_nil⟩,fun a ha b hb he=>?_⟩
   rw[mem_singleton] at hb
   exact hdg (hb▸he▸ha)
  have hgU1:∀x∈g++[d],x∈ordM m:=fun x hx=>by
   rcases mem_append.1 hx with hx | hx
   ·exact hgU x hx
   ·rw[mem_singleton] at hx;exact hx▸hdU
  refine CW.seqM (fun f w=>∃vg2 Lg2 vo2 Lo2,OwnSl 44 32 vg2 g1.length (digsL g1) Lg2∧OwnSl 44 32 vo2 o1.length (digsL o1) Lo2∧o1.length≤65536∧Step S ((b3,blk 44 (u8s d))::(bG,blk 225 [pt br,.slice la m.length lc,vg2,vo2])::(Lo2++(Lg2++(Lu++B)))) w0 w∧Holds f [(0,pt bG),(3,pt b3)]) ?_ ?_
  ·refine sr<|wA<|wZ<|cB<|CW.loop (fun z f w'=>∃i gi oi Wi ki,i≤l.length∧z=l.length - i∧Goes (partsM s m) (l.drop i) gi oi g1 o1 ki∧ki≤k1∧gi.Nodup∧(∀x∈gi,x∈ordM m)∧oi.length+1≤gi.length∧GRep bG br (.slice la m.length lc) gi oi Wi∧Step S (((b3,blk 44 (u8s d))::Lu)++(Wi++B)) w0 w'∧Holds f [(0,pt bG),(3,pt b3),(4,.slice ua l.length uc),(5,.int .i64 (i:Nat))]) (m:=l.length) ?_ ?_
   ·exact⟨0,g++[d],o,_,k1,Nat.zero_le _,rfl,hg1,Nat.le_refl _,hnd1,hgU1,by rw[length_append,length_singleton];omega,⟨vg',Lg',vo,Lo,rfl,hvg',hvo⟩,hs,rfl,rfl,rfl,rfl,trivial⟩
   clear hs
   rintro z f w ⟨i,gi,oi,Wi,ki,hil,rfl,hGi,hki,hndi,hgUi,holi,hWi,hs,hf⟩
   have ob:=hf.chain
   obtain⟨gs,rfl⟩:=ob
   by_cases hlt:i<l.length
   ·have ob:∃x,l[i]=x:=⟨_,rfl⟩
    obtain⟨x,hx⟩:=ob
    have hxm:x∈l:=hx▸getElem_mem hlt
    have hx32:=hM.len x (hlU x hxm)
    have hxl:(u8s x).length=32:=by rw[u8s,length_map,hx32]
    rw[drop_eq_getElem_cons hlt,hx] at hGi
    have ob:=hGi.split
    obtain⟨g2,o2,ka,kb,hGx,hGr,hka,hkb⟩:=ob
    have ob:=hu.some1 (by omega)
    obtain⟨bu,cu,more,hu1,hu2,hu3⟩:=ob
    cases hu1
    subst hu2
    have hxat:At w bu (0+i*32) (u8s x):=digsL_at (fun y hy=>hM.len y (hlU y hy)) (At.of_blk (hs.has (bu,blk 44 (digsL l++more)) (by simp))).left (by rw[getElem?_eq_getElem hlt,hx])
    have hto:=fun h=>ih ka (by omega) (w0:=w) hGx (hlU x hxm) hndi hgUi (by omega) hWi h
    rw[hB] at hto
    refine cq<|sr<|wm<|wm<|wL u35 rfl<|lT<|wZ<|CW.cond rfl (fun h=>?_) (fun h=>?_)
    ·refine ck<|cq<|cB<|cr<|wm<|wm<|wm<|wI u35 ty44 rfl rfl<|wR ty44 rfl hxl hxat<|wE rfl (run_call en120 rfl rfl) (hto (Own.live (A:=[_,_]) hs)) ?_
     rintro e w ⟨W2,rfl,hG2,hq⟩
     refine⟨_,rfl,?_⟩
     replace hs:=Own.set (A:=[_,_]) hs hq
     refine wZ<|cr<|wm<|wP ((i+1:Nat):Int)<|wA<|wZ<|(show _∧_ from⟨rfl,_,?_,i+1,g2,o2,W2,kb,hlt,rfl,hGr,Nat.le_trans hkb hki,hGx.nodup hndi,?_,hGx.len 1 holi,hG2,hs,rfl,rfl,rfl,rfl,trivial⟩)
     ·omega
     ·exact hGx.sub hM.sub (fun y hy=>by obtain rfl:=mem_singleton.1 hy;exact hlU _ hxm) hgUi
    ·cases h
   ·obtain rfl:i=l.length:=by omega
    rw[drop_length] at hGi
    refine cq<|sr<|wm<|wm<|wL u35 rfl<|lF<|wZ<|CW.cond rfl (fun h=>?_) (fun h=>?_)
    ·cases h
    have hgl1:=nodup_len hndi hgUi
    cases hGi
    obtain⟨vg2,Lg2,vo2,Lo2,hWe,hv2,hv3⟩:=hWi
    subst hWe
    refine CW.exit ?_
    exact⟨rfl,vg2,Lg2,vo2,Lo2,hv2,hv3,by omega,Step.tC hs,rfl,rfl,trivial⟩
  clear hs
  rintro f w ⟨vg2,Lg2,vo2,Lo2,hv2,hv3,hol2,hs,hf⟩
  have ob:=hf.chain
  obtain⟨gt,rfl⟩:=ob
  have ob:=hv3.form
  obtain⟨oa,oc,rfl⟩:=ob
  refine CW.any (A:=fun w=>Step S [(b3,blk 44 (u8s d))] w0 w) (C:=fun w=>Step S [(b3,blk 44 (u8s d)),(bG,blk 225 [pt br,.slice la m.length lc,vg2,.slice oa o1.length oc])] w0 w) 10 11 mixedP rfl ?_
  replace hs:=hs.drew
  refine aM 0 rfl<|aM 1 rfl<|aN 2 rfl rfl<|aF 3 rfl 3 u225 rfl ty35 rfl<|aL 4 rfl ty35 rfl (fun w hs=>hs.c1 rfl)<|aV 5 rfl (fun w hs=>run_loadN ty44 rfl hdl hs.a0)<|AL.one 6 (by kernel_rfl) rfl (by exact Step.dropR (L1:=[(b3,_)]) hs) (by exact Step.dropR (L1:=[_,_]) hs) ?_
  refine WL.buildSlice (cs:=u8s d) u35 ty44 rfl (by decide) rfl (filled1 hdl rfl) rfl hs (fun b50 w hs=>?_)
  have hsl50:Sl w 32 (.slice (some ⟨b50,0,none⟩) 1 1) 1 (u8s d):=.own1 hs (by rw[hdl])
  replace hs:=Step.in3 hs
  refine wZ<|⟨rfl,?_⟩
  refine AL.one 7 (by kernel_rfl) rfl (by exact Step.dropR (L1:=[(b3,_)]) (hs.dropL (L1:=Lo2)).tail) (by exact Step.dropR (L1:=[_,_]) (hs.dropL (L1:=Lo2)).tail) ?_
  refine WL.append u35 u35 ty44 rfl (by decide) rfl rfl (hv3) (hs) (hsl50) (Cells1.u8s _) (by omega) rfl (fun v51 Lv51 w hv51 hs=>?_)
  replace hs:=Step.out3 hs
  refine wZ<|⟨rfl,?_⟩
  refine AL.valA 8 rfl (by kernel_rfl) rfl (fun w hs=>run_nilCheck rfl) ?_
  refine aF 9 rfl 3 u225 rfl ty35 rfl<|AL.one 10 (by kernel_rfl) rfl (by exact Step.dropR (L1:=[(b3,_)]) hs) (by exact Step.dropR (L1:=[_,_]) hs) ?_
  refine ws1 ty35 rfl rfl (hv51.one) (hs.swap) (fun w hs=>?_)
  refine wZ<|⟨rfl,?_⟩
  refine AL.relax (by kernel_rfl) ?_
  refine AL.end (by kernel_rfl) (by exact Step.dropR (L1:=[(b3,_)]) hs.tail) (trivial) ?_
  refine fin_end0 rfl ?_
  have hsF:=Step.tF hs
  refine⟨_,rfl,⟨vg2,Lg2,v51,Lv51,rfl,by rw[hg'];exact hv2,?_⟩,hfin hsF⟩
  rw[ho',length_append,digsL_snoc];exact hv51
end
theorem bld_go (a b:Option Addr) (n c:Nat) (w:World):(Instr.build 225 #[(0,.pointer a),(1,.slice b n c)]).run Tryz.prog w=.ok (.agg #[.pointer a,.slice b n c,.slice none 0 0,.slice none 0 0]) w:=by kernel_rfl
theorem Step.nilR{S:List Nat}{L:OL}{w w':World} (h:Step S (L++[]) w w'):Step S L w w':=by rw[append_nil] at h;exact h
section
variable{br:Nat}{s:AS}{D R LvL:OL}{r:U8}{m:List (List UInt8×Bool)}{vL:Value}{gf of:List (List UInt8)}{k:Nat}{w0:World}
theorem behindR_spec (hR:RRep br s D R) (ok:s.Ok) (hM:Met s r m) (hL:OwnSl 137 33 vL m.length (rowsSt m) LvL) (hLD:∀p∈LvL,p∈D) (hm:m.length≤65536) (h32m:∀p∈m,p.1.length=32) (hpl:∀d,(partsM s m d).length<1000000000) (hG:Goes (partsM s m) [r] [] [] gf of k) (hw:Lives (R++D) w0) :
  CP 71 #[pt br,vL] w0 fun e w'=>∃v Lv,e=.returned v∧OwnSl 44 32 v of.length (digsL of) Lv∧Step [] Lv w0 w':=by
 have hrU:=mem_of_getElem? hM.head
 have hr32:=hM.len r hrU
 have hrl:(u8s r).length=32:=by rw[u8s,length_map,hr32]
 obtain⟨pb,hp0⟩:∃pb,m[0]?=some (r,pb):=by
  cases hme:m with
  | nil=>have h:=hM.head;rw[hme] at h;cases h
  | cons p rest=>
   obtain⟨pd,pb⟩:=p
   have h:=hM.head
   rw[hme,ordM_head pb rest] at h
   obtain rfl:=Option.some.inj h
   exact⟨pb,rfl⟩
 have hm0:0<m.length:=(List.getElem?_eq_some_iff.1 hp0).1
 have hL0:=hL
 have ob:=hL.some1 hm0
 obtain⟨bl,cl,more,hl1,hl2,hl3⟩:=ob
 subst hl1
 have hs:Step [] [] w0 w0:=Step.refl w0
 have hrow:At w0 bl (0+0*33) (u8s r):=(rowsSt_at h32m (At.of_blk (hw.has (bl,blk 137 (rowsSt m++more)) (mem_append_right _ (hLD _ (by rw[hl2];simp))))).left hp0).left
 refine calls (n:=20) Tryz.func71 rfl rfl rfl ?_
 refine sr<|wA<|wZ<|sr<|wm<|wm<|wV (run_build rfl (bld_go _ _ _ _ _))<|WL.box (cs:=[pt br,.slice (some ⟨bl,0,none⟩) m.length cl,.slice none 0 0,.slice none 0 0]) rfl rfl rfl hs (fun b9 w hs=>?_)
 refine wA<|wZ ?_
 have hG0:GRep b9 br (.slice (some ⟨bl,0,none⟩) m.length cl) [] [] [(b9,blk 225 [pt br,.slice (some ⟨bl,0,none⟩) m.length cl,.slice none 0 0,.slice none 0 0])]:=⟨_,[],_,[],rfl,OwnSl.nil _ _,OwnSl.nil _ _⟩
 refine sr<|wm<|wm<|wV (run_ixSlN (i:=0) u133 ty137 rfl rfl (by omega))<|wF 0 u137 rfl ty44 rfl<|wR ty44 rfl hrl (hrow.step hs.clear (by simp))<|wE rfl (run_call en120 rfl rfl) (to_spec (w0:=w) hR ok hM hL0 hLD hm h32m hpl k hG hrU nodup_nil (fun x hx=>by cases hx) (Nat.le_refl _) hG0 (Lives.mk (Step.call0 hw hs))) ?_
 rintro e w ⟨W1,rfl,hG1,hq⟩
 refine⟨_,rfl,?_⟩
 replace hs:=Step.nilR (Step.call (L1:=[_]) (L:=[]) hs hq)
 refine wZ ?_
 obtain⟨vg,Lg,vo,Lo,hWe,hvg,hvo⟩:=hG1
 subst hWe
 refine sr<|wm<|wn rfl<|wF 3 u225 rfl ty35 rfl<|wl ty35 rfl (hs.c0 (v:=vo) rfl)<|wA<|wZ<|CW.ret ?_
 refine fin_ret1 rfl ?_
 exact⟨_,Lo,rfl,hvo,Step.dropL (L1:=Lg) hs.tail⟩
end
end Go.Gx
namespace Go.Gx
open Go.Proofs List
theorem entsP_len{bs:U8}:∀{n:Nat}{a:U8}{p q:Nat}{l:List Ent},entsP bs n a p=.ok (l,q)→l.length=n
 | 0,a,p,q,l,h=>by
  unfold entsP at h
  injection h with h;injection h with h1 h2
  subst h1;rfl
 | n+1,a,p,q,l,h=>by
  unfold entsP at h
  split at h
  ·cases h
  ·rename_i x q' h1
   split at h
   ·cases h
   ·rename_i l' r h2
    injection h with h;injection h with h3 h4
    subst h3
    rw[length_cons,entsP_len h2]
theorem decL_len (y:U8):(decL y).length≤1024:=by
 unfold decL
 split
 ·unfold readP
  split
  ·exact Nat.zero_le _
  ·rename_i l q h
   split
   ·exact Nat.zero_le _
   ·unfold decP at h
    split at h
    ·cases h
    ·split at h
     ·split at h
      ·cases h
      ·rename_i n q' hm
       have h1:=entsP_len h
       have h2:=(mostP_ok hm).2.2
       show l.length≤1024
       omega
     ·cases h
 ·exact Nat.zero_le _
theorem partsM_len (s:AS) (m:List (List UInt8×Bool)) (d:U8):(partsM s m d).length<1000000000:=by
 unfold partsM
 split
 ·unfold partsD
  rw[length_map]
  have:=decL_len (s.get d).1
  omega
 ·decide
end Go.Gx
namespace Go.Gx
open Go.Proofs List
attribute [local irreducible] shaL cutD frontL
def copyR (t:AS):List ((List UInt8)×(List UInt8))→Nat→Nat×Int×AS
 | [],n=>(n,0,t)
 | (d,b)::l,n=>if (t.put b).2.1≠0 then (n,(((t.put b).2.1:Nat):Int),(t.put b).2.2) else copyR (t.put b).2.2 l (if (t.put b).2.2.stamp d=t.stamp d then n else n+1)
section
variable{t:AS}{d b:U8}{l:List (List UInt8×List UInt8)}{n:Nat}
def cpR (r:Int×WS) (s t:AS) (of:List (List UInt8)):Nat×Int×AS:=if r.1≠0 then (0,r.1,t) else copyR t (of.map fun x=>(x,(s.get x).1)) 0
theorem put_32 (ok:t.Ok) (y:U8):(t.put y).1.length=32:=by
 unfold AS.put
 simp only
 split
 ·rfl
 ·have h1:∀{r:List UInt8×Nat×AS},r=(match ({ t with puts:=t.puts+1 }:AS).lay (frontL y t.k) y with | some s2=>(frontL y t.k,0,s2) | none=>(zD,43,{ t with puts:=t.puts+1 }))→r.1.length=32:=fun {r} hr=>by
   cases hl:({ t with puts:=t.puts+1 }:AS).lay (frontL y t.k) y with
   | none=>rw[hl] at hr;rw[hr];rfl
   | some s2=>rw[hl] at hr;rw[hr];exact frontL_len ok.k2
  split
  ·split
   ·exact frontL_len ok.k2
   ·split
    ·rfl
    ·exact h1 rfl
  ·exact h1 rfl
end
theorem Met.of_le{s:AS}{d:U8}{m:List (List UInt8×Bool)}{gf of:List (List UInt8)}{k:Nat} (h:Met s d m) (hG:Goes (partsM s m) [d] [] [] gf of k):of.length≤m.length∧∀x∈of,x∈ordM m:=by
 have h1:=hG.nodup nodup_nil
 have h2:=hG.sub h.sub (fun x hx=>by obtain rfl:=mem_singleton.1 hx;exact mem_of_getElem? h.head) (fun x hx=>by cases hx)
 have ob:=hG.ext
 obtain⟨n,t,e1,e2,hp⟩:=ob
 rw[nil_append] at e1 e2
 subst e1
 subst e2
 have h3:=nodup_len h1 h2
 have h4:=ordM_len m
 exact⟨by rw[hp.length_eq];omega,fun x hx=>h2 x (hp.mem_iff.1 hx)⟩
section
variable{S:List Nat}{a p q:Nat×Obj}{A B C E O Z X Y:OL}{w w':World}
theorem Step.fin3 (hw:Lives (A++(O++X)) w) (h:Step (List.map (·.1) (A++(O++X))) (Y++X) w w'):Step (List.map (·.1) (A++O)) Y w w':=
 Step.narrow (W:=A++O) (D:=X) (by rw[append_assoc];exact hw) (by rw[append_assoc];exact h)
end
section
variable{bf tp:Nat}{s t1:AS}{Q:OL→OL→Prop}{Lt O D:OL}{d:U8}{r:Int×WS}{rn rd rb:Int}{N k kw:Nat}{gf of:List (List UInt8)}{w0:World}
def WkTo (bf tp:Nat) (s t1:AS) (Q:(List (Nat×Obj))→(List (Nat×Obj))→Prop) (Lt O D:(List (Nat×Obj))) (r:Int×WS) (w:World) (e:Ending) (w':World):Prop:=
 ∃v L1 O1 D1 M,e=.returned (.tuple #[v,.int .i64 r.1])∧PRep tp t1 (D1++D) L1∧Q (D1++D) O1∧(r.1=0→∃bm,v=.pointer (some ⟨bm,0,none⟩)∧MetRep bm s r.2.m (D1++D) M)∧Step (List.map (·.1) (Lt++O)) (L1++(O1++(M++D1))) w w'
end
section
variable{br:Nat}{s:AS}{D R:OL}{d:U8}{w0:World}
end
section
variable{bf tp:Nat}{s t1:AS}{I:AS→Prop}{Q:OL→OL→Prop}{Rt O D:OL}{d:U8}{r:Int×WS}{rn rd rb:Int}{N k kw:Nat}{gf of:List (List UInt8)}{w0:World}
def WkToR (bf tp:Nat) (t1:AS) (Q:(List (Nat×Obj))→(List (Nat×Obj))→Prop) (Rt O D:(List (Nat×Obj))) (r:Int×WS) (w:World) (e:Ending) (w':World):Prop:=
 ∃v R1 O1 D1 Lv,e=.returned (.tuple #[v,.int .i64 r.1])∧RRep tp t1 (D1++D) R1∧Q (D1++D) O1∧(r.1=0→OwnSl 137 33 v r.2.m.length (rowsSt r.2.m) Lv)∧Step (List.map (·.1) (Rt++O)) (R1++(O1++(Lv++D1))) w w'
end
section
variable{bp br tp tr:Nat}{s t:AS}{D L Lt R Rt:OL}{d:U8}{rn rd rb:Int}{N k:Nat}{gf of:List (List UInt8)}{w0:World}
structure Wkd (s:AS) (d:(List UInt8)) (r:Int×WS) (gf of:List (List UInt8)) (k:Nat):Prop where
 met:r.1=0→Met s d r.2.m
 len:r.1=0→r.2.m.length≤65536
 m32:r.1=0→∀p∈r.2.m,p.1.length=32
 go:r.1=0→Goes (partsM s r.2.m) [d] [] [] gf of k
theorem runs_wkd (hd:d.length=32) (hrm:(rmOf rn rd rb).Ok):∃gf of k,Wkd s d (runs s (rmOf rn rd rb) [rootS d] ws0) gf of k∧of.length≤65536:=by
 have hmet:=fun{t:WS} h=>runs_met (s:=s) (rm:=rmOf rn rd rb) (t:=t) hd h
 have hgd:=standP_good (s:=s) (rm:=rmOf rn rd rb) hrm 34 (x:=rootS d) (t:=ws0) (ws0_good.mono (by omega))
 have hM32:=root_M32 (s:=s) (rm:=rmOf rn rd rb) hd
 rw[←runs_root] at hgd hM32
 have ob:∃r,runs s (rmOf rn rd rb) [rootS d] ws0=r:=⟨_,rfl⟩
 obtain⟨r,hr⟩:=ob
 rw[hr] at hmet hgd hM32⊢
 by_cases he:r.1=0
 ·have h1:=hmet (t:=r.2) (by rw[←he])
  have hg:=hgd he
  have hml:r.2.m.length≤65536:=Nat.le_trans hg.m hg.n
  have ob:=h1.goes
  obtain⟨gf,of,k,hG⟩:=ob
  exact⟨gf,of,k,⟨fun _=>h1,fun _=>hml,fun _=>hM32 he,fun _=>hG⟩,Nat.le_trans (h1.of_le hG).1 hml⟩
 ·exact⟨[],[],0,⟨fun h=>absurd h he,fun h=>absurd h he,fun h=>absurd h he,fun h=>absurd h he⟩,Nat.zero_le _⟩
section
variable{r:Int×WS}
end
section
variable (W:Wkd s d (runs s (rmOf rn rd rb) [rootS d] ws0) gf of k) (ok:s.Ok) (hfew:s.Few N) (hN:N<900000000) (hd:d.length=32) (hrm:(rmOf rn rd rb).Ok)
include W ok hfew hN hd hrm
end
end
def cp2 (r:Int×WS) (s t:AS) (of:List (List UInt8)):(Nat×Int×AS)×AS:=if s.k=t.k then (cpR r s t of,s.gotN r.2.g) else ((0,3,t),s)
section
variable{A B X:OL}{w w' w0:World}{S:List Nat}
end
section
variable{bp br tp tr:Nat}{s t:AS}{D L Lt R Rt:OL}{d:U8}{rn rd rb:Int}{N k:Nat}{gf of:List (List UInt8)}{w0:World}
section
variable (W:Wkd s d (runs s (rmOf rn rd rb) [rootS d] ws0) gf of k) (ok:s.Ok) (okt:t.Ok) (hfew:s.Few N) (hft:t.Few N) (hN:N<900000000) (hd:d.length=32) (hrm:(rmOf rn rd rb).Ok)
include W ok okt hfew hft hN hd hrm
end
end
end Go.Gx
namespace Go.Gx
open Go.Proofs List
def addAll:List (List (List UInt8))→(List UInt8)→Int→(List UInt8)×Int
 | [],c,ft=>(c,ft)
 | ps::l,c,ft=>addAll l (addC c ft ps) (addF c ft ps)
def packB (k:Nat) (l:List (List UInt8)):(List UInt8):=formB 5++formB k++formB l.length++l.flatMap fun x=>formB x.length++x
end Go.Gx
namespace Go.Gx
open Go.Proofs List
attribute [local irreducible] shaL cutD frontL
def packR (s:AS) (r:Int×WS) (of:List (List UInt8)):(List UInt8)×Int:=if r.1≠0 then ([],r.1) else if (packB s.k (of.map fun d=>(s.get d).1)).length≤4194304 then (packB s.k (of.map fun d=>(s.get d).1),0) else ([],2)
def pcs (s:AS) (n:Nat) (l:List (List UInt8)):List (List (List UInt8)):=[[formB 5],[formB s.k],[formB n]]++l.map fun d=>[formB (s.get d).1.length,(s.get d).1]
section
variable{bp:Nat}{s:AS}{D L:OL}{d:U8}{w0:World}{rn rd rb:Int}{N k:Nat}{gf of:List (List UInt8)}
end
end Go.Gx
namespace Go.Gx
open Go.Proofs List
theorem doneR_long{v:Value}{l:List Wit} (w0:World) (hl:Sl w0 3 v l.length (rowsI l)) (hok:∀x∈l,x.ok w0) (hsum:4194304<(l.flatMap Wit.put).length) (hlen:l.length≤4398046511104) (hput:∀x∈l,x.put.length≤1099511627776) :
  CP 101 #[v] w0 (Ret0 (.tuple #[.slice none 0 0,.int .i64 2]) w0):=by
 have hs:Step [] [] w0 w0:=Step.refl w0
 obtain⟨a,c,rfl⟩:∃a c,v=.slice a l.length c:=by
  obtain⟨_,⟨_,c,rfl,h0⟩ | ⟨b,off,c,rfl,_⟩⟩:=hl
  ·exact⟨_,_,by rw[h0]⟩
  ·exact⟨_,_,rfl⟩
 refine calls (n:=42) Tryz.func101 rfl rfl rfl ?_
 refine sr<|wA<|wA<|wZ<|sr<|wA<|wZ<|cq<|sr<|wA<|wZ<|cB ?_
 refine CW.loop (fun m f w'=>∃k v Lv,k≤l.length∧m=l.length - k∧((l.take k).flatMap Wit.put).length≤4194304∧OwnSl 5 1 v ((l.take k).flatMap Wit.put).length (u8s ((l.take k).flatMap Wit.put)) Lv∧Step [] Lv w0 w'∧Holds f [(0,.slice a l.length c),(4,v),(5,.int .i64 k)]) (m:=l.length) ?_ ?_
 ·exact⟨0,_,[],by omega,by omega,by simp,.nil _ _,hs,rfl,rfl,rfl,trivial⟩
 ·rintro m f w ⟨k,v,Lv,hk,rfl,hfit,hv,hs,hf⟩
  have ob:=hf.chain
  obtain⟨g,rfl⟩:=ob
  have ob:=hv.form
  obtain⟨va,vc,rfl⟩:=ob
  have hcap:=Wit.put_len_take (l:=l) k
  refine cq<|sr<|wm<|wm<|wL u190 rfl<|wV (run_lss rfl rfl)<|wZ<|CW.condP rfl (fun h=>?_) (fun h=>?_)
  ·have hlt:k<l.length:=by omega
   obtain⟨_,⟨_,c1,h1,h0⟩ | ⟨lb,lo,c1,h1,hat⟩⟩:=hl
   ·omega
   injection h1 with h1 _ _
   subst h1
   have hax:=hat.item hlt
   have hxo:=hok _ (getElem_mem hlt)
   have hpx:=hput _ (getElem_mem hlt)
   have hcap':=Wit.put_len_take (l:=l) (k+1)
   have hfm:(l.take (k+1)).flatMap Wit.put=(l.take k).flatMap Wit.put++(l[k]).put:=by rw[take_succ_eq_append_getElem hlt,flatMap_append];simp
   rw[hfm,length_append] at hcap'
   generalize hX:l[k]=x at *
   by_cases h1:x.k=1
   ·refine ck<|cq<|cB<|cq<|sr<|wm<|wm<|wI u190 ty188 rfl rfl<|wF 0 u188 rfl ty3 rfl<|wl ty3 rfl (((hax.step hs.clear (by simp)).cell rfl))<|wV (run_bT (run_eql rfl rfl) (by exact h1))<|wm<|wy<|wm<|wy<|wm<|wy<|wI u190 ty188 rfl rfl<|wy<|wF 1 u188 rfl ty3 rfl<|wy<|wl ty3 rfl (((hax.step hs.clear (by simp)).cell (j:=1) rfl))<|wy<|lF<|pT<|wZ ?_
    refine cF rfl<|ck<|sr<|wm<|wm<|wI u190 ty188 rfl rfl<|wR ty188 rfl rfl (hax.step hs.clear (by simp))<|wE rfl (run_call en145 rfl rfl) (put_spec _ (hxo.step hs.clear (.inr (outside_nil _)))) ?_
    rintro e w ⟨v',Lv',rfl,hv',hq⟩
    refine⟨_,rfl,?_⟩
    refine wA<|wZ ?_
    have ob:=hv'.form
    obtain⟨va',vc',rfl⟩:=ob
    replace hs:=(hs.call0 hq).append_comm
    by_cases hf2:((l.take k).flatMap Wit.put).length+x.put.length≤4194304
    ·refine cq<|sr<|wm<|wL u76 rfl<|wm<|wL u76 rfl<|wV (run_add rfl rfl rfl (by omega))<|xF<|wZ<|cF rfl<|ck<|cr<|wm<|wm ?_
     refine WL.append u76 u76 ty5 rfl (by decide) rfl rfl (hv) (hs) (hv'.sl hs.append_comm) (Cells1.u8s _) (by omega) rfl (fun v40 Lv40 w hv40 hs=>?_)
     refine wA<|wZ<|cr<|wm<|wP ((k+1:Nat):Int)<|wA<|wZ<|(show _∧_ from⟨rfl,_,?_,k+1,_,_,by omega,rfl,?_,?_,hs.dropR,rfl,rfl,rfl,trivial⟩)
     ·omega
     ·rw[hfm,length_append];exact hf2
     ·rw[hfm,length_append,u8s_append]
      exact hv40
    ·refine cq<|sr<|wm<|wL u76 rfl<|wm<|wL u76 rfl<|wV (run_add rfl rfl rfl (by omega))<|xT<|wZ<|CW.cond rfl (fun h=>?_) (fun h=>?_)
     ·refine sr<|wA<|wA<|wZ<|CW.ret ?_
      refine fin_ret2 rfl ?_
      exact⟨rfl,hs.clear⟩
     ·cases h
   ·refine ck<|cq<|cB<|cq<|sr<|wm<|wm<|wI u190 ty188 rfl rfl<|wF 0 u188 rfl ty3 rfl<|wl ty3 rfl (((hax.step hs.clear (by simp)).cell rfl))<|wV (run_bF (run_eql rfl rfl) (by exact h1))<|wm<|wz<|wz<|wz<|wz<|wz<|wz<|pF<|wZ ?_
    refine cF rfl<|ck<|sr<|wm<|wm<|wI u190 ty188 rfl rfl<|wR ty188 rfl rfl (hax.step hs.clear (by simp))<|wE rfl (run_call en145 rfl rfl) (put_spec _ (hxo.step hs.clear (.inr (outside_nil _)))) ?_
    rintro e w ⟨v',Lv',rfl,hv',hq⟩
    refine⟨_,rfl,?_⟩
    refine wA<|wZ ?_
    have ob:=hv'.form
    obtain⟨va',vc',rfl⟩:=ob
    replace hs:=(hs.call0 hq).append_comm
    by_cases hf2:((l.take k).flatMap Wit.put).length+x.put.length≤4194304
    ·refine cq<|sr<|wm<|wL u76 rfl<|wm<|wL u76 rfl<|wV (run_add rfl rfl rfl (by omega))<|xF<|wZ<|cF rfl<|ck<|cr<|wm<|wm ?_
     refine WL.append u76 u76 ty5 rfl (by decide) rfl rfl (hv) (hs) (hv'.sl hs.append_comm) (Cells1.u8s _) (by omega) rfl (fun v40 Lv40 w hv40 hs=>?_)
     refine wA<|wZ<|cr<|wm<|wP ((k+1:Nat):Int)<|wA<|wZ<|(show _∧_ from⟨rfl,_,?_,k+1,_,_,by omega,rfl,?_,?_,hs.dropR,rfl,rfl,rfl,trivial⟩)
     ·omega
     ·rw[hfm,length_append];exact hf2
     ·rw[hfm,length_append,u8s_append]
      exact hv40
    ·refine cq<|sr<|wm<|wL u76 rfl<|wm<|wL u76 rfl<|wV (run_add rfl rfl rfl (by omega))<|xT<|wZ<|CW.cond rfl (fun h=>?_) (fun h=>?_)
     ·refine sr<|wA<|wA<|wZ<|CW.ret ?_
      refine fin_ret2 rfl ?_
      exact⟨rfl,hs.clear⟩
     ·cases h
  ·obtain rfl:k=l.length:=by omega
   rw[take_length] at hfit
   omega
def pkI (k n:Nat) (B:List (Value×(List UInt8))):List Wit:=[⟨1,5,.slice none 0 0,[]⟩,⟨1,k,.slice none 0 0,[]⟩,⟨1,n,.slice none 0 0,[]⟩]++B.map fun t=>⟨4,0,t.1,t.2⟩
theorem pkI_snoc (k n:Nat) (B:List (Value×List UInt8)) (t:Value×List UInt8):pkI k n (B++[t])=pkI k n B++[⟨4,0,t.1,t.2⟩]:=by simp[pkI]
theorem pkI_put (k:Nat) (B:List (Value×List UInt8)):(pkI k B.length B).flatMap Wit.put=packB k (B.map (·.2)):=by
 have h:∀B:List (Value×List UInt8),(B.map fun t=>(⟨4,0,t.1,t.2⟩:Wit)).flatMap Wit.put=(B.map (·.2)).flatMap fun x=>formB x.length++x:=by
  intro B
  induction B with
  | nil=>rfl
  | cons x B ih=>rw[map_cons,flatMap_cons,ih,map_cons,flatMap_cons];rfl
 rw[pkI,flatMap_append,h,packB,length_map]
 simp[Wit.put]
theorem pkI_ok{w:World}{k n:Nat}{B:List (Value×List UInt8)} (hk:k≤9223372036854775807) (hn:n≤9223372036854775807) (hB:∀t∈B,t.2.length≤70368744177664∧Sl w 1 t.1 t.2.length (u8s t.2)):∀x∈pkI k n B,x.ok w:=by
 intro x hx
 rcases mem_append.1 hx with hx | hx
 ·simp only[mem_cons,not_mem_nil,or_false] at hx
  rcases hx with rfl | rfl | rfl
  ·exact .inl ⟨rfl,by decide,rfl⟩
  ·exact .inl ⟨rfl,hk,rfl⟩
  ·exact .inl ⟨rfl,hn,rfl⟩
 ·have ob:=mem_map.1 hx
  obtain⟨t,ht,rfl⟩:=ob
  exact .inr ⟨.inl rfl,rfl,(hB t ht).1,(hB t ht).2⟩
def packE (b:(List UInt8)):(List UInt8)×Int:=if b.length≤4194304 then (b,0) else ([],2)
theorem pkI_len (k n:Nat) (B:List (Value×List UInt8)):(pkI k n B).length=B.length+3:=by simp[pkI]
theorem rowsI_snoc (l:List Wit) (x:Wit):rowsI (l++[x])=rowsI l++x.cells:=by simp[rowsI]
set_option maxHeartbeats 4000000 in
theorem packedR_spec{v:Value}{B:List (Value×List UInt8)}{k:Nat} (w0:World) (hv:Sl w0 1 v B.length (B.map (·.1))) (hB:∀t∈B,t.2.length≤67108864∧Sl w0 1 t.1 t.2.length (u8s t.2)) (hBl:B.length≤70000) (hk:k≤33) :
  CP 47 #[.int .i64 (k:Nat),v] w0 fun e w'=>∃u Lu,e=.returned (.tuple #[u,.int .i64 (packE (packB k (B.map (·.2)))).2])∧OwnSl 5 1 u (packE (packB k (B.map (·.2)))).1.length (u8s (packE (packB k (B.map (·.2)))).1) Lu∧Step [] Lu w0 w':=by
 have hs:Step [] [] w0 w0:=Step.refl w0
 have ob:=hv.form
 obtain⟨a,c,rfl⟩:=ob
 refine calls (n:=33) Tryz.func47 rfl rfl rfl ?_
 refine sr<|wA<|wA<|wZ<|sr<|wV (run_build rfl (bld_num _ _ _))<|wm<|wV (run_build rfl (bld_num _ _ _))<|wm<|wV (run_lenSl u24 rfl)<|wV (run_build rfl (bld_num _ _ _))<|WL.buildSlice (cs:=[.int .i64 1,.int .i64 5,.slice none 0 0,.int .i64 1,.int .i64 (k:Nat),.slice none 0 0,.int .i64 1,.int .i64 (B.length:Nat),.slice none 0 0]) u190 ty188 rfl (by decide) rfl (filled3 _ _ _ _ _ _ _ _ _ _ _ _) rfl hs (fun b14 w hs=>?_)
 refine wA<|wZ<|cq<|sr<|wA<|wZ ?_
 have hv0:OwnSl 188 3 (.slice (some ⟨b14,0,none⟩) 3 3) (pkI k B.length (B.take 0)).length (rowsI (pkI k B.length (B.take 0))) [(b14,blk 188 (rowsI (pkI k B.length [])))]:=OwnSl.mk (b:=b14) (xs:=rowsI (pkI k B.length [])) (k:=3) rfl
 refine cB<|CW.loop (fun z f w'=>∃i vI LI,i≤B.length∧z=B.length - i∧OwnSl 188 3 vI (pkI k B.length (B.take i)).length (rowsI (pkI k B.length (B.take i))) LI∧Step [] LI w0 w'∧Holds f [(1,.slice a B.length c),(6,vI),(7,.int .i64 (i:Nat))]) (m:=B.length) ?_ ?_
 ·exact⟨0,_,_,Nat.zero_le _,rfl,hv0,hs,rfl,rfl,rfl,trivial⟩
 clear hs hv0
 rintro z f w ⟨i,vI,LI,hi,rfl,hvI,hs,hf⟩
 have ob:=hf.chain
 obtain⟨g,rfl⟩:=ob
 have hpl:=pkI_len k B.length (B.take i)
 rw[length_take] at hpl
 by_cases hlt:i<B.length
 ·have ob:∃t,B[i]?=some t:=⟨_,getElem?_eq_getElem hlt⟩
  obtain⟨t,ht⟩:=ob
  have ob:=sl_at1 (c:=fun t:Value×List UInt8=>t.1) hv ht
  obtain⟨bb,bo,bc,hbe,hbc⟩:=ob
  cases hbe
  have ob:=hB t (mem_of_getElem? ht)
  obtain⟨htl,hts⟩:=ob
  have ob:=hts.form
  obtain⟨ta,tc,hte⟩:=ob
  have htk:B.take (i+1)=B.take i++[t]:=by rw[take_add_one,ht];rfl
  refine cq<|sr<|wm<|wm<|wV (run_lenSl u24 rfl)<|wV (run_bT (run_lss rfl rfl) (by omega))<|wZ<|CW.cond rfl (fun h=>?_) (fun h=>?_)
  ·refine ck<|cq<|cB<|cr<|wm<|wm<|wm<|wV (run_ixSlN u24 ty76 rfl rfl (by omega))<|wl ty76 rfl (((keepCell hbc hs.clear).trans (congrArg some hte)))<|wV (run_build rfl (bld_bytes _ _ _ _ _))<|WL.buildSlice (cs:=[.int .i64 4,.int .i64 0,.slice ta t.2.length tc]) u190 ty188 rfl (by decide) rfl (filled1 rfl rfl) rfl hs (fun b27 w hs=>?_)
   have hsl27:Sl w 3 (.slice (some ⟨b27,0,none⟩) 1 1) 1 [.int .i64 4,.int .i64 0,.slice ta t.2.length tc]:=.own1 hs rfl
   replace hs:=Step.rot1 hs
   refine WL.append u190 u190 ty188 rfl (by decide) rfl rfl (hvI) (hs) (hsl27) (Cells1.of_all rfl) (by omega) rfl (fun v28 Lv28 w hv28 hs=>?_)
   replace hs:=Step.dropR hs
   refine wA<|wZ<|cr<|wm<|wV (run_add (c:=((i+1:Nat):Int)) rfl rfl (by omega) (by omega))<|wA<|wZ<|(show _∧_ from⟨rfl,_,?_,i+1,v28,Lv28,hlt,rfl,?_,hs,rfl,rfl,rfl,trivial⟩)
   ·omega
   ·rw[htk,pkI_snoc,length_append,rowsI_snoc]
    show OwnSl _ _ _ _ (_++[.int .i64 4,.int .i64 (0:Nat),t.1]) _
    rw[hte];exact hv28
  ·cases h
 ·obtain rfl:i=B.length:=by omega
  rw[take_length] at hvI hpl
  refine cq<|sr<|wm<|wm<|wV (run_lenSl u24 rfl)<|wV (run_bF (run_lss rfl rfl) (by omega))<|wZ<|CW.cond rfl (fun h=>?_) (fun h=>?_)
  ·cases h
  have hput:=pkI_put k B
  have hok:=pkI_ok (w:=w) (k:=k) (n:=B.length) (B:=B) (by omega) (by omega) fun t ht=>⟨by have:=(hB t ht).1;omega,(hB t ht).2.step0 hs⟩
  have hsl:=hvI.sl (L:=[]) (by rw[append_nil];exact hs)
  by_cases hfit:(packB k (B.map (·.2))).length≤4194304
  ·have he:packE (packB k (B.map (·.2)))=(packB k (B.map (·.2)),0):=if_pos hfit
   rw[he]
   have hdn:=doneR_spec w hsl hok (by rw[hput];exact hfit) (by omega)
   rw[hput] at hdn
   refine CW.exit<|sr<|wm<|wE rfl (run_call en101 rfl rfl) (hdn) ?_
   rintro e w ⟨u,Lu,rfl,hu,hq⟩
   refine⟨_,rfl,?_⟩
   replace hs:=Step.call0 hs hq
   refine wx rfl rfl<|wx rfl rfl<|wA<|wA<|wZ<|CW.ret ?_
   refine fin_ret2 rfl ?_
   exact⟨u,Lu,rfl,hu,Step.dropR (L1:=Lu) hs⟩
  ·have he:packE (packB k (B.map (·.2)))=([],2):=if_neg hfit
   rw[he]
   have hdn:=doneR_long w hsl hok (by rw[hput];omega) (by omega) (fun x hx=>by
    rcases mem_append.1 hx with hx | hx
    ·simp only[mem_cons,not_mem_nil,or_false] at hx
     have h5:=formB_len 5
     have hkl:=formB_len k
     have hnl:=formB_len B.length
     rcases hx with rfl | rfl | rfl
     ·show(formB 5).length≤_;omega
     ·show(formB k).length≤_;omega
     ·show(formB B.length).length≤_;omega
    ·have ob:=mem_map.1 hx
     obtain⟨t,ht,rfl⟩:=ob
     have h1:=formB_len t.2.length
     have h2:=(hB t ht).1
     show(formB t.2.length++t.2).length≤_
     rw[length_append];omega)
   refine CW.exit<|sr<|wm<|wE rfl (run_call en101 rfl rfl) (hdn) ?_
   rintro e w ⟨rfl,hq⟩
   refine⟨_,rfl,?_⟩
   replace hs:=hs.callE hq
   refine wx rfl rfl<|wx rfl rfl<|wA<|wA<|wZ<|CW.ret ?_
   refine fin_ret2 rfl ?_
   exact⟨_,[],rfl,OwnSl.nil _ _,hs.clear⟩
end Go.Gx
namespace Go.Gx
open Go.Proofs List
attribute [local irreducible] shaL cutD frontL
theorem packR_ok{s:AS}{r:Int×WS}{of:List (List UInt8)} (h:r.1=0):packR s r of=packE (packB s.k (of.map fun d=>(s.get d).1)):=by rw[packR,if_neg (fun hh=>hh h)];rfl
theorem Step.k5{S:List Nat}{A B C E X:OL}{w w':World} (h:Step S (A++(B++(C++(E++X)))) w w'):Step S (A++X) w w':=Step.dropL (L1:=B++(C++E)) (h.perm (by classical exact perm_iff_count.2 fun x=>by simp only[count_append];omega))
theorem Step.k6{S:List Nat}{A B C X:OL}{w w':World} (h:Step S (A++(B++(C++X))) w w'):Step S (B++((A++C)++X)) w w':=h.perm (by classical exact perm_iff_count.2 fun x=>by simp only[count_append];omega)
section
variable{br:Nat}{s:AS}{D R:OL}{d:U8}{w0:World}{rn rd rb:Int}{N k:Nat}{gf of:List (List UInt8)}
set_option maxHeartbeats 8000000 in
theorem packDR_spec (hR:RRep br s D R) (ok:s.Ok) (hfew:s.Few N) (hN:N<1000000000000) (hd:d.length=32) (hrm:(rmOf rn rd rb).Ok) (hG:(runs s (rmOf rn rd rb) [rootS d] ws0).1=0→Goes (partsM s (runs s (rmOf rn rd rb) [rootS d] ws0).2.m) [d] [] [] gf of k) (hw:Lives (R++D) w0) :
  CP 39 #[pt br,.agg (u8s d).toArray,.agg #[.int .i64 rn,.int .i64 rd,.int .i64 rb]] w0 fun e w'=>∃v Lv R' D',e=.returned (.tuple #[v,.int .i64 (packR s (runs s (rmOf rn rd rb) [rootS d] ws0) of).2])∧
   RRep br (s.gotN (runs s (rmOf rn rd rb) [rootS d] ws0).2.g) (D'++D) R'∧OwnSl 5 1 v (packR s (runs s (rmOf rn rd rb) [rootS d] ws0) of).1.length (u8s (packR s (runs s (rmOf rn rd rb) [rootS d] ws0) of).1) Lv∧Step (R.map (·.1)) (R'++(Lv++D')) w0 w':=by
 have hw9:=fun{w1:World} h=>walkR_spec (w0:=w1) hR ok hfew hN hd hrm h
 have hmet:=fun{t:WS} h=>runs_met (s:=s) (rm:=rmOf rn rd rb) (t:=t) hd h
 have hgd:=standP_good (s:=s) (rm:=rmOf rn rd rb) hrm 34 (x:=rootS d) (t:=ws0) (ws0_good.mono (by omega))
 have hM32:=root_M32 (s:=s) (rm:=rmOf rn rd rb) hd
 rw[←runs_root] at hgd hM32
 have ob:∃r,runs s (rmOf rn rd rb) [rootS d] ws0=r:=⟨_,rfl⟩
 obtain⟨r,hr⟩:=ob
 rw[hr] at hw9 hG hgd hM32⊢
 have hdl:(u8s d).length=32:=by rw[u8s,length_map,hd]
 have hs:Step (List.map (·.1) (R++D)) (R++D) w0 w0:=hw
 by_cases he:r.1≠0
 ·have hre:packR s r of=([],r.1):=if_pos he
  rw[hre]
  rw[if_neg he] at hw9
  refine calls (n:=55) Tryz.func39 rfl rfl rfl ?_
  refine sr<|WL.box (cs:=u8s d) rfl rfl rfl hs (fun b4 w hs=>?_)
  refine WL.box (cs:=[.int .i64 rn,.int .i64 rd,.int .i64 rb]) rfl rfl rfl hs (fun b5 w hs=>?_)
  refine wA<|wA<|wZ<|sr<|wm<|wR ty44 rfl hdl hs.a1<|wR ty30 rfl rfl hs.a0<|wE rfl (run_call en65 rfl rfl) (hw9 (Lives.mk hs.tail.tail)) ?_
  rintro e w ⟨v,Lv,R1,D1,rfl,hR1,hvm,hq⟩
  refine⟨_,rfl,?_⟩
  replace hs:=Own.put (A:=[_,_]) (L:=R) hs hq
  refine wm<|wx rfl rfl<|wx rfl rfl<|wA<|wA<|wZ ?_
  replace hs:=hs.tail.tail
  refine cq<|sr<|wm<|wV (run_bT (run_neq rfl rfl) (by exact he))<|wZ<|CW.cond rfl (fun h=>?_) (fun h=>?_)
  ·refine sr<|wm<|wA<|wA<|wZ<|CW.ret ?_
   refine fin_ret2 rfl ?_
   exact⟨_,[],R1,Lv++D1,rfl,by rw[append_assoc];exact hR1.mono mem_right,OwnSl.nil _ _,Step.fin (M:=[]) hw hs⟩
  ·cases h
 have he0:r.1=0:=by simpa using he
 have hmet:=hmet (t:=r.2) (by rw[hr,←he0])
 have hgd:=hgd he0
 have hM32:=hM32 he0
 have hml:r.2.m.length≤65536:=Nat.le_trans hgd.m hgd.n
 have ob:=hmet.of_le (hG he0)
 obtain⟨hol,hofU⟩:=ob
 rw[packR_ok he0]
 rw[if_pos he0] at hw9
 refine calls (n:=55) Tryz.func39 rfl rfl rfl ?_
 refine sr<|WL.box (cs:=u8s d) rfl rfl rfl hs (fun b4 w hs=>?_)
 refine WL.box (cs:=[.int .i64 rn,.int .i64 rd,.int .i64 rb]) rfl rfl rfl hs (fun b5 w hs=>?_)
 refine wA<|wA<|wZ<|sr<|wm<|wR ty44 rfl hdl hs.a1<|wR ty30 rfl rfl hs.a0<|wE rfl (run_call en65 rfl rfl) (hw9 (Lives.mk hs.tail.tail)) ?_
 rintro e w ⟨v,Lv,R1,D1,rfl,hR1,hvm,hq⟩
 refine⟨_,rfl,?_⟩
 replace hs:=Own.put (A:=[_,_]) (L:=R) hs hq
 refine wm<|wx rfl rfl<|wx rfl rfl<|wA<|wA<|wZ ?_
 replace hs:=hs.tail.tail
 refine cq<|sr<|wm<|wV (run_bF (run_neq rfl rfl) (by exact he))<|wZ<|CW.cond rfl (fun h=>?_) (fun h=>?_)
 ·cases h
 rw[append_assoc] at hs
 have hR2:RRep br (s.gotN r.2.g) (Lv++(D1++D)) R1:=hR1.mono mem_right
 refine ck<|sr<|wm<|wm<|wE rfl (run_call en71 rfl rfl) (behindR_spec hR2 (ok.gotN _) (⟨hmet.head,hmet.got,hmet.len,hmet.sub⟩:Met (s.gotN r.2.g) d r.2.m) hvm (fun p hp=>mem_append_left _ hp) hml hM32 (partsM_len _ _) (hG he0) (Lives.mk hs)) ?_
 rintro e w ⟨vo,Lo,rfl,hvo,hq⟩
 refine⟨_,rfl,?_⟩
 replace hs:=Step.call0 hs hq
 refine wA<|wZ ?_
 have ob:=hvo.form
 obtain⟨oa,oc,rfl⟩:=ob
 refine sr<|wA<|wZ<|cq<|sr<|wA<|wZ<|cB<|CW.loop (fun z f w'=>∃(i:Nat) (vB:Value) (LvB:OL) (B:List (Value×List UInt8)) (LB:OL),i≤of.length∧z=of.length - i∧B.map (·.2)=(of.take i).map (fun d=>(s.get d).1)∧(∀t∈B,Held LB t.1 t.2)∧OwnSl 76 1 vB B.length (B.map (·.1)) LvB∧Step (List.map (·.1) (R++D)) (LvB++(LB++(Lo++(R1++(Lv++(D1++D)))))) w0 w'∧Holds f [(0,pt br),(10,.slice oa of.length oc),(11,vB),(12,.int .i64 (i:Nat))]) (m:=of.length) ?_ ?_
 ·exact⟨0,.slice none 0 0,[],([]:List (Value×List UInt8)),[],Nat.zero_le _,rfl,rfl,(fun t ht=>by cases ht),OwnSl.nil _ _,hs,rfl,rfl,rfl,rfl,trivial⟩
 clear hs
 rintro z f w ⟨i,vB,LvB,B,LB,hil,rfl,hB2,hBH,hvB,hs,hf⟩
 have ob:=hf.chain
 obtain⟨g,rfl⟩:=ob
 have hBl:B.length=i:=by rw[←length_map (f:=(·.2)),hB2,length_map,length_take];omega
 by_cases hlt:i<of.length
 ·have ob:∃x,of[i]?=some x:=⟨_,getElem?_eq_getElem hlt⟩
  obtain⟨x,hx⟩:=ob
  have hxU:=hofU x (mem_of_getElem? hx)
  have hx32:=hmet.len x hxU
  have hxl:(u8s x).length=32:=by rw[u8s,length_map,hx32]
  have hgx:=get_len ok x
  have hg0:(s.get x).2=0:=by
   rw[ordM_mem] at hxU
   have ob:=mem_map.1 hxU
   obtain⟨p,hp,rfl⟩:=ob
   exact hmet.got p hp
  have hraw:(s.gotN r.2.g).raw x=(s.get x).1:=get_raw hg0
  have ob:=hvo.some1 (by omega)
  obtain⟨bu,cu,more,hu1,hu2,hu3⟩:=ob
  cases hu1
  subst hu2
  have hxat:At w bu (0+i*32) (u8s x):=digsL_at (fun y hy=>hmet.len y (hofU y hy)) (At.of_blk (hs.has (bu,blk 44 (digsL of++more)) (by simp))).left hx
  have hrw:=fun{w1:World} h=>rraw_abs (w0:=w1) hR2 (ok.gotN _) h hx32
  rw[hraw] at hrw
  have htk:of.take (i+1)=of.take i++[x]:=by rw[take_add_one,hx];rfl
  refine cq<|sr<|wm<|wm<|wL u35 rfl<|lT<|wZ<|CW.cond rfl (fun h=>?_) (fun h=>?_)
  ·refine ck<|cq<|cB<|sr<|wm<|wm<|wm<|wI u35 ty44 rfl rfl<|wR ty44 rfl hxl hxat<|wE rfl (run_call en72 rfl rfl) (hrw (Lives.mk (Step.dropL (L1:=[_]) (Step.dropL (L1:=LB) (Step.dropL (L1:=LvB) hs))))) ?_
   rintro e w ⟨vb,Lb,rfl,hvb,hq⟩
   refine⟨_,rfl,?_⟩
   replace hs:=Step.call0 hs hq
   refine wm<|wx rfl rfl<|wx rfl rfl<|wA<|wA<|wZ ?_
   have ob:=hvb.form
   obtain⟨ra,rc,rfl⟩:=ob
   replace hs:=Step.k6 hs
   refine cr<|wm<|wm<|WL.buildSlice (cs:=[.slice ra (s.get x).1.length rc]) u24 ty76 rfl (by decide) rfl (filled1 rfl rfl) rfl hs (fun b45 w hs=>?_)
   have hsl45:Sl w 1 (.slice (some ⟨b45,0,none⟩) 1 1) 1 [.slice ra (s.get x).1.length rc]:=.own1 hs rfl
   replace hs:=Step.pIn hs
   refine WL.append u24 u24 ty76 rfl (by decide) rfl rfl (hvB) (hs) (hsl45) (Cells1.of_all rfl) (by omega) rfl (fun v46 Lv46 w hv46 hs=>?_)
   replace hs:=Step.pOut hs
   refine wA<|wZ<|cr<|wm<|wP ((i+1:Nat):Int)<|wA<|wZ<|(show _∧_ from⟨rfl,_,?_,i+1,v46,Lv46,B++[(.slice ra (s.get x).1.length rc,(s.get x).1)],Lb++LB,hlt,rfl,?_,?_,?_,hs,rfl,rfl,rfl,rfl,trivial⟩)
   ·omega
   ·rw[map_append,hB2,htk,map_append];rfl
   ·intro t ht
    rcases mem_append.1 ht with ht | ht
    ·exact(hBH t ht).mono fun p hp=>mem_append_right _ hp
    ·obtain rfl:=mem_singleton.1 ht
     exact⟨Lb,hvb,fun p hp=>mem_append_left _ hp⟩
   ·rw[length_append,map_append];exact hv46
  ·cases h
 ·obtain rfl:i=of.length:=by omega
  rw[take_length] at hB2
  have ob:=hR2.look ok.len
  obtain⟨ra,rc,_,hlk⟩:=ob
  have hpk:=packedR_spec (v:=vB) (B:=B) (k:=s.k) w (hvB.sl hs) (fun t ht=>by
   have ob:=hBH t ht
   obtain⟨Lt,h1,h2⟩:=ob
   refine⟨?_,h1.slH fun p hp=>hs.has p (by simp[h2 p hp])⟩
   have h3:=mem_map_of_mem (f:=(·.2)) ht
   rw[hB2] at h3
   have ob:=mem_map.1 h3
   obtain⟨y,_,hy⟩:=ob
   have h4:=get_len ok y
   rw[hy] at h4
   exact Nat.le_trans h4 (by decide)) (by omega) (by have:=ok.k2;omega)
  rw[hB2] at hpk
  have ob:∃q,packE (packB s.k (of.map fun d=>(s.get d).1))=q:=⟨_,rfl⟩
  obtain⟨q,hqe⟩:=ob
  rw[hqe] at hpk⊢
  rw[hBl] at hvB
  have ob:=hvB.form
  obtain⟨va,vc,rfl⟩:=ob
  refine cq<|sr<|wm<|wm<|wL u35 rfl<|lF<|wZ<|CW.cond rfl (fun h=>?_) (fun h=>?_)
  ·cases h
  refine CW.exit<|sr<|wm<|wn rfl<|wF 0 u54 rfl ty3 rfl<|wl ty3 rfl ((hlk (fun p hp=>hs.has p (by simp[hp]))).1.cell (j:=0) rfl)<|wm<|wE rfl (run_call en47 rfl rfl) (hpk) ?_
  rintro e w ⟨u,Lu,rfl,hu,hq⟩
  refine⟨_,rfl,?_⟩
  replace hs:=Step.call0 hs hq
  refine wx rfl rfl<|wx rfl rfl<|wA<|wA<|wZ<|CW.ret ?_
  refine fin_ret2 rfl ?_
  exact⟨u,Lu,R1,Lv++D1,rfl,by rw[append_assoc];exact hR2,hu,Step.fin (M:=Lu) hw (by rw[append_assoc];exact Step.k5 hs)⟩
end
section
variable{s:AS}{rm:Rm}{g:Nat}
end
def sweepW (s:AS) (rm:Rm):List (List UInt8)→Nat→List (List UInt8)→Int×Nat×List (List UInt8)
 | [],g,m=>(0,g,m)
 | d::l,g,m=>if (runs s rm [rootS d] ws0).1≠0 then ((runs s rm [rootS d] ws0).1,g+(runs s rm [rootS d] ws0).2.g,m) else sweepW s rm l (g+(runs s rm [rootS d] ws0).2.g) (m++ordM (runs s rm [rootS d] ws0).2.m)
def goneL (m l:List (List UInt8)):List (List UInt8):=l.filter fun d=>decide (d∉m)
def evAll (s:AS) (l:List (List UInt8)):AS:=l.foldl AS.evict s
def sweepR (s:AS) (rm:Rm) (roots:List (List UInt8)):Nat×Int×AS:=
 if 65536<roots.length then (0,2,s)
 else if (sweepW s rm roots 0 []).1≠0 then (0,(sweepW s rm roots 0 []).1,s.gotN (sweepW s rm roots 0 []).2.1)
 else ((goneL (sweepW s rm roots 0 []).2.2 (s.X.map (·.d))).length,0,evAll (s.gotN (sweepW s rm roots 0 []).2.1) (goneL (sweepW s rm roots 0 []).2.2 (s.X.map (·.d))))
theorem findX_del{d e:U8} (h:d≠e):∀X:List Blb,findX d (delX e X)=findX d X
 | []=>rfl
 | b::X=>by
  have ih:=findX_del h X
  by_cases hb:b.d=e
  ·have h1:delX e (b::X)=delX e X:=by simp[delX,hb]
   have h2:findX d (b::X)=findX d X:=by
    rw[findX,List.find?_cons]
    have:decide (b.d=d)=false:=by rw[hb];exact decide_eq_false fun h'=>h h'.symm
    rw[this]
    rfl
   rw[h1,h2,ih]
  ·have h1:delX e (b::X)=b::delX e X:=by simp[delX,hb]
   rw[h1,findX,findX,List.find?_cons,List.find?_cons]
   rw[findX,findX] at ih
   rw[ih]
end Go.Gx
namespace Go.Gx
open Go.Proofs Go.RowKit List
attribute [local irreducible] shaL cutD frontL
def nums (l:List Int):List Value:=l.map fun z=>.int .i64 z
structure Nums (w:World) (v:Value) (l:List Int):Prop where
 sl:Sl w 1 v l.length (nums l)
 rng:∀z∈l,-9223372036854775808≤z∧z≤9223372036854775807
 len:l.length≤9223372036854775807
section
variable{α:Type}{a b c e f:α}{A B C D:List α}
end
section
variable{wd rn rd rb:Int}{x:Stup}{v:Value}{l:List Int}
end
end Go.Gx
namespace Go.Gx
open Go.Proofs Go.ChangeShapes Go.WideShapes Go.ChangeAt Go.RowKit Go.Deep List
open Go.Proofs.YtplmnkogkfhaiaaGreat (Rows.uptoBulk Rows.uptoBulkAll)
section
variable{H:Type}{enc:TypeId×Value→H}{w:World}{spare:Nat→Bool}{held:Bool}
theorem open_nums{v:Value}{d:DataW H}{ps:List MemPlace}{r:Reach}{b0:Nat} (hval:Value.okWide Tryz.prog w r b0 25 v) (h:DataW.Trod enc Tryz.prog w 0 spare held 25 v d ps):∃l:List Int,Nums w v l∧Room v∧(Rows.uptoBulk d≤1048576→l.length≤1048576):=by
 obtain⟨fuel,h⟩:=h
 have ob:=okWide_slice u25 hval
 obtain⟨a0,len,cap,rfl⟩:=ob
 have hc1:Tryz.prog.cellsOf 3=1:=ty3.cellsOf
 rcases ChangeShapes.open_ints (k:=.i64) u25 u3 hc1 h with⟨hc,_⟩ | ⟨a,len',cap',zs,hc,_,hlc,hcm,hm,hx,hi,hwf⟩
 ·have:Value.slice a0 len cap=.slice none 0 0:=by simpa[Value.cells] using hc
  cases this
  exact⟨[],⟨Sl.nil _ _ _,fun z hz=>(by cases hz),by simp⟩,Nat.le_refl 0,fun _=>by simp⟩
 ·have:Value.slice a0 len cap=.slice (some a) len' cap':=by simpa[Value.cells] using hc
  cases this
  have hspot:a.spot=none:=by
   simp only[Value.okWide,u25,Cell.okWide,Cell.ok] at hval
   exact hval.2.2.2.1
  obtain⟨b,off,sp⟩:=a
  simp only at hspot
  subst hspot
  have hle:len≤zs.length:=by rw[hm];split <;> omega
  have hd:d=_:=congrArg Prod.fst hx
  have hmx:maxLen=9223372036854775807:=by decide
  have hlen:=bulk_len (H:=H) (lits .i64 (zs.take len))
  have hll:(lits (H:=H) .i64 (zs.take len)).length=len:=by simp[lits];omega
  have hl2:(zs.take len).length=len:=by simp;omega
  refine⟨zs.take len,⟨?_,fun z hz=>?_,by omega⟩,hlc,fun hb=>by rw[hd] at hb;simp only[Rows.uptoBulk] at hb;omega⟩
  ·rw[hl2]
   refine .mk (by simp[nums];omega) ?_
   intro j v hj
   rw[nums,getElem?_map] at hj
   cases hz:(zs.take len)[j]? with
   | none=>rw[hz] at hj;cases hj
   | some n=>
    rw[hz] at hj
    obtain rfl:Value.int .i64 n=v:=by simpa using hj
    have hjl:j<len:=by
     have:=(List.getElem?_eq_some_iff.1 hz).1
     omega
    have h2:=hi j (by omega)
    rw[add_off] at h2
    rw[h2]
    rw[getElem?_take,if_pos hjl] at hz
    simp[getD,hz]
  ·have hw:=hwf z (mem_of_mem_take hz)
   simp only[Lit.wf,Bool.and_eq_true,decide_eq_true_eq] at hw
   have h0:(IntKind.i64).min = -9223372036854775808:=by decide
   have h255:(IntKind.i64).max=9223372036854775807:=by decide
   rw[h0,h255] at hw
   exact hw
end
end Go.Gx
namespace Go.Gx
open Go.Proofs List
attribute [local irreducible] shaL cutD frontL decL decE
def slsh (p:(List UInt8)):Nat:=p.count 47
structure Pth (x:Std):Prop where
 z:x.dep=0→x.p=[]
 s:x.dep≠0→x.p≠[]∧slsh x.p+1=x.dep
 l:x.p.length≤65*x.dep
structure PLe (t u:WS):Prop where
 n:t.n≤u.n
 b:t.b≤u.b
 l:∀i∈t.l,i∈u.l
section
variable{s:AS}{rm rm':Rm}
end
def deepL (l:List WI):Nat:=l.foldl (fun m i=>max m (slsh i.p+1)) 0
def rmG:Rm:=rmOf 65536 32 67108864
theorem rmG_ok:rmG.Ok:=⟨by decide,by decide,by decide⟩
end Go.Gx
namespace Go.Gx
open Go.Proofs List
attribute [local irreducible] shaL cutD frontL
section
variable{P:Program}{f:Slots}{w:World}{d:Option Tmp}{ty:TypeId}{pos:String}{af:Array Edge}{x y:Operand}{ats:Array TypeId}{k:IntKind}{a b c:Int}
end
def bndV (r:Int×WS):Value:=if r.1=0 then .tuple #[.agg #[.int .i64 (r.2.n:Nat),.int .i64 (deepL r.2.l:Nat),.int .i64 (r.2.b:Nat)],.bool true] else .tuple #[.agg #[.int .i64 0,.int .i64 0,.int .i64 0],.bool false]
section
variable{bw bp br N:Nat}{s:AS}{D R:OL}{d:U8}{vR:Value}{w0:World}
end
end Go.Gx
namespace Go.Gx
open Go.Proofs Go.RowKit List
attribute [local irreducible] shaL cutD frontL
theorem packR_gotN{s:AS}{g:Nat}{r:Int×WS}{of:List (List UInt8)}:packR (s.gotN g) r of=packR s r of:=rfl
theorem partsM_gotN{s:AS}{g:Nat}{m:List (List UInt8×Bool)}:partsM (s.gotN g) m=partsM s m:=rfl
def rN (n:Int) (i:Nat):Int:=if i=1 then n - 1 else n
def rD (n:Int) (i:Nat):Int:=if i=2 then n - 1 else n
def rB (n:Int) (i:Nat):Int:=if i=3 then n - 1 else n
section
variable{α:Type}{a b c e f g:α}{A B C D:List α}
end
section
variable{wd z:Int}{x:Stup}
end
end Go.Gx
namespace Go.Gx
open Go.Proofs List
attribute [local irreducible] shaL cutD frontL
structure LdK (b3 b8 b9 b10 b11 b12 b13 bp:Nat) (rm:Rm) (D:(List (Nat×Obj))):Prop where
 m3:(b3,blk 39 [.pointer (some ⟨bp,0,none⟩)])∈D
 m9:(b9,blk 3 [.int .i64 rm.d])∈D
 m12:(b12,blk 150 [.func (.func 75) #[] #[.pointer (some ⟨b9,0,none⟩),.pointer (some ⟨b10,0,none⟩),.pointer (some ⟨b3,0,none⟩)]])∈D
 m13:(b13,blk 151 [.func (.func 77) #[] #[.pointer (some ⟨b12,0,none⟩),.pointer (some ⟨b8,0,none⟩),.pointer (some ⟨b13,0,none⟩),.pointer (some ⟨b11,0,none⟩)]])∈D
def LdW (b8 b10 b11:Nat) (rm:Rm) (t:WS) (D W:(List (Nat×Obj))):Prop:=
 ∃vL LL T,W=(b8,blk 65 [vL])::(b10,blk 3 [.int .i64 (rm.n - t.n)])::(b11,blk 3 [.int .i64 (rm.b - t.b)])::LL∧OwnSl 155 3 vL t.l.length (rowsW T) LL∧T.map (·.1)=t.l∧∀u∈T,Held D u.2 u.1.x
section
variable{b3 b8 b9 b10 b11 b12 b13 bp N:Nat}{rm:Rm}{s:AS}{t:WS}{x:Std}{D D' W L:OL}{w0:World}
end
section
variable{S:List Nat}{q:Nat×Obj}{P A X:OL}{w w':World}
end
def LdPost (c8 c10 c11 bp:Nat) (rm:Rm) (s:AS) (r:Int×WS) (D W L:(List (Nat×Obj))) (w0:World) (e:Ending) (w':World):Prop:=
 ∃W' L' D',e=.returned (.int .i64 r.1)∧(r.1=0→LdW c8 c10 c11 rm r.2 (D'++D) W')∧PRep bp (s.gotN r.2.g) (D'++D) L'∧Step ((W++L).map (·.1)) (W'++(L'++D')) w0 w'
section
variable{c3 c8 c9 c10 c11 c12 c13 bp N:Nat}{rm:Rm}{s:AS}
end
end Go.Gx
namespace Go.Gx
open Go.Proofs List
attribute [local irreducible] shaL cutD frontL decL decE
abbrev MLe (t u:WS):Prop:=∀p∈t.m,p∈u.m
theorem push_mle (x:Std) (t:WS):MLe t (push x t):=by
 intro p hp
 rw[push_m];exact hp
section
variable {s s':AS}{rm:Rm}
theorem visit_mle (x:Std) (t:WS):MLe t (visit s rm x t).2.2:=by
 unfold visit
 split
 ·exact fun _ h=>h
 ·split
  ·exact fun _ h=>h
  ·split
   ·exact fun _ h=>mem_append_left _ h
   ·split
    ·split
     ·exact fun _ h=>mem_append_left _ h
     ·exact fun _ h=>mem_append_left _ h
    ·split
     ·exact fun _ h=>mem_append_left _ h
     ·exact fun _ h=>mem_append_left _ h
theorem seqS_mle{f:Std→WS→Int×WS} (hf:∀x t,MLe t (f x t).2):∀(l:List Std) (t:WS),MLe t (seqS f l t).2
 | [],t=>fun _ h=>h
 | x::l,t=>by
  rw[seqS]
  split
  ·exact hf x t
  ·exact fun p hp=>seqS_mle hf l _ p (hf x t p hp)
theorem standP_mle:∀(n:Nat) (x:Std) (t:WS),MLe t (standP s rm n x t).2
 | 0,x,t=>fun _ h=>h
 | n+1,x,t=>by
  rw[standP]
  split
  ·exact visit_mle x t
  ·exact fun p hp=>seqS_mle (fun y u p hp=>standP_mle n y (push y u) p (push_mle y u p hp)) _ _ p (visit_mle x t p hp)
theorem visit_met{x:Std}{t:WS} (h:(visit s rm x t).1=0):(x.d,x.dir)∈(visit s rm x t).2.2.m:=by
 by_cases c1:rm.d<x.dep
 ·rw[visit,if_pos c1] at h;cases h
 by_cases c2:rm.n<(t.n:Int)+1
 ·rw[visit,if_neg c1,if_pos c2] at h;cases h
 have hm:∀u:WS,u.m=t.m++[(x.d,x.dir)]→(x.d,x.dir)∈u.m:=fun u h=>by rw[h];simp
 rw[visit,if_neg c1,if_neg c2]
 split
 ·exact hm _ rfl
 ·split
  ·split
   ·exact hm _ rfl
   ·exact hm _ rfl
  ·split
   ·exact hm _ rfl
   ·exact hm _ rfl
theorem visit_same{x:Std}{t:WS} (h:s'.get x.d=s.get x.d):visit s' rm x t=visit s rm x t:=by
 unfold visit
 rw[h]
theorem seqS_same {f f':Std→WS→Int×WS}{T:WS} (hf:∀x t,MLe t (f x t).2):∀(l:List Std) (t:WS),(∀y∈l,∀u,(f y u).1=0→MLe (f y u).2 T→f' y u=f y u)→(seqS f l t).1=0→MLe (seqS f l t).2 T→seqS f' l t=seqS f l t
 | [],t,_,_,_=>rfl
 | y::l,t,h,h0,hT=>by
  by_cases c:(f y t).1≠0
  ·rw[seqS,if_pos c] at h0
   exact absurd h0 c
  rw[seqS,if_neg c] at h0 hT
  have hp:=seqS_mle hf l (f y t).2
  have e:=h y (by simp) t (by simpa using c) (fun p hq=>hT p (hp p hq))
  rw[seqS,seqS,e,if_neg c,if_neg c]
  exact seqS_same hf l _ (fun z hz=>h z (by simp[hz])) h0 hT
theorem standP_same{T:WS} (hg:∀p∈T.m,s'.get p.1=s.get p.1):∀(n:Nat) (x:Std) (t:WS),(standP s rm n x t).1=0→MLe (standP s rm n x t).2 T→standP s' rm n x t=standP s rm n x t
 | 0,x,t,h,_=>by rw[standP] at h;cases h
 | n+1,x,t,h,hT=>by
  have hv:(visit s rm x t).1=0:=by
   by_cases c:(visit s rm x t).1=0
   ·exact c
   ·rw[standP,if_pos c] at h
    exact absurd h c
  rw[standP,if_neg (fun k=>k hv)] at h hT
  have hp:=seqS_mle (fun y u p hp=>standP_mle (s:=s) (rm:=rm) n y (push y u) p (push_mle y u p hp)) (visit s rm x t).2.1 (visit s rm x t).2.2
  have e:=visit_same (s:=s) (s':=s') (rm:=rm) (x:=x) (t:=t) (hg _ (hT _ (hp _ (visit_met hv))))
  rw[standP,standP,e,if_neg (fun k=>k hv),if_neg (fun k=>k hv)]
  exact seqS_same (fun y u p hp=>standP_mle n y (push y u) p (push_mle y u p hp)) _ _ (fun y hy u h1 h2=>standP_same hg n y (push y u) h1 h2) h hT
theorem runs_same{d:U8} (h:(runs s rm [rootS d] ws0).1=0) (hg:∀p∈(runs s rm [rootS d] ws0).2.m,s'.get p.1=s.get p.1):runs s' rm [rootS d] ws0=runs s rm [rootS d] ws0:=by
 rw[runs_root,runs_root] at *
 exact standP_same hg 34 _ _ h fun _ h=>h
end
end Go.Gx
namespace Go.Gx
open Go.Proofs Go.RowKit List
attribute [local irreducible] shaL cutD frontL
section
variable{α:Type}{a b c e:α}{A B C D Y Z M:List α}
end
def HeldR (D:(List (Nat×Obj))) (v:Value) (T:List (WI×Value)):Prop:=(∃Lt,OwnSl 155 3 v T.length (rowsW T) Lt∧∀p∈Lt,p∈D)∧∀u∈T,Held D u.2 u.1.x
def Trees (s:AS) (D:(List (Nat×Obj))) (ds:List (List UInt8)) (B:List (Value×List (WI×Value))):Prop:=B.length=ds.length∧∀(j:Nat) (t:Value×List (WI×Value)) (d:(List UInt8)),B[j]?=some t→ds[j]?=some d→t.2.map (·.1)=(runs s rmG [rootS d] ws0).2.l∧HeldR D t.1 t.2
section
variable{wd:Int}{x:Stup}{v:Value}{l:List Int}
end
end Go.Gx
namespace Go.Gx
open Go.Proofs List
def blbsP (bs:(List UInt8)):Nat→Nat→Except Int (List (List UInt8)×Nat)
 | 0,p=>.ok ([],p)
 | n+1,p=>
  match bytesP bs p with
  | .error e=>.error e
  | .ok (x,q)=>if 1048576<x.length then .error 2 else
   match blbsP bs n q with
   | .error e=>.error e
   | .ok (l,r)=>.ok (x::l,r)
def pkP (k:Nat) (bs:(List UInt8)):Except Int (List (List UInt8)×Nat):=
 match numP bs 0 with
 | .error e=>.error e
 | .ok (t,p)=>if t=5 then
   match numP bs p with
   | .error e=>.error e
   | .ok (u,p2)=>if u=k then
     match numP bs p2 with
     | .error e=>.error e
     | .ok (n,q)=>if n=0∨65536<n then .error 81 else blbsP bs n q
    else .error 3
  else .error 52
def preB (l:List (List UInt8)):Except Int (List (List UInt8)×Nat)→Except Int (List (List UInt8)×Nat)
 | .error e=>.error e
 | .ok (m,q)=>.ok (l++m,q)
theorem preB_nil (r:Except Int (List (List UInt8)×Nat)):preB [] r=r:=by
 rcases r with e | ⟨m,q⟩ <;> rfl
theorem blbsP_step{bs:U8}{n p q:Nat}{x:U8} (l:List (List UInt8)) (h:bytesP bs p=.ok (x,q)) (hx:¬1048576<x.length):preB l (blbsP bs (n+1) p)=preB (l++[x]) (blbsP bs n q):=by
 conv=>lhs;unfold blbsP
 rw[h]
 simp only
 rw[if_neg hx]
 rcases blbsP bs n q with e | ⟨m,r⟩
 ·rfl
 ·simp[preB]
theorem blbsP_long{bs:U8}{n p q:Nat}{x:U8} (l:List (List UInt8)) (h:bytesP bs p=.ok (x,q)) (hx:1048576<x.length):preB l (blbsP bs (n+1) p)=.error 2:=by
 conv=>lhs;unfold blbsP
 rw[h]
 simp only
 rw[if_pos hx]
 rfl
theorem blbsP_stop{bs:U8}{n p:Nat}{e:Int} (l:List (List UInt8)) (h:bytesP bs p=.error e):preB l (blbsP bs (n+1) p)=.error e:=by
 conv=>lhs;unfold blbsP
 rw[h]
 rfl
theorem blbsP_err{bs:U8}:∀{n p:Nat}{e:Int},blbsP bs n p=.error e→e≠0
 | 0,p,e,h=>by cases h
 | n+1,p,e,h=>by
  unfold blbsP at h
  split at h
  ·rename_i h1;injection h with h;subst h;rcases bytesP_err h1 with h | h <;> omega
  ·split at h
   ·injection h with h;omega
   ·split at h
    ·rename_i h1;injection h with h;subst h;exact blbsP_err h1
    ·cases h
theorem pkP_err{k:Nat}{bs:U8}{e:Int} (h:pkP k bs=.error e):e≠0:=by
 unfold pkP at h
 split at h
 ·rename_i h1;injection h with h;subst h;rcases numP_err h1 with h | h <;> omega
 ·split at h
  ·split at h
   ·rename_i h1;injection h with h;subst h;rcases numP_err h1 with h | h <;> omega
   ·split at h
    ·split at h
     ·rename_i h1;injection h with h;subst h;rcases numP_err h1 with h | h <;> omega
     ·split at h
      ·injection h with h;omega
      ·exact blbsP_err h
    ·injection h with h;omega
  ·injection h with h;omega
theorem blbsP_sum{bs:U8}:∀{n p q:Nat}{l:List (List UInt8)},blbsP bs n p=.ok (l,q)→p≤bs.length→l.length=n∧p+(l.map List.length).sum≤q∧q≤bs.length∧∀x∈l,x.length≤1048576
 | 0,p,q,l,h,hp=>by
  unfold blbsP at h
  injection h with h;injection h with h1 h2;subst h1;subst h2
  exact⟨rfl,Nat.le_refl _,hp,fun x hx=>by cases hx⟩
 | n+1,p,q,l,h,hp=>by
  unfold blbsP at h
  split at h
  ·cases h
  ·rename_i x q1 h1
   have hb:=bytesP_ok h1
   have hx:p+x.length≤q1:=by
    unfold bytesP at h1
    split at h1
    ·cases h1
    ·rename_i u q0 h2
     have hn:=numP_ok h2
     split at h1
     ·cases h1
     ·injection h1 with h1;injection h1 with h3 h4
      subst h3;subst h4
      simp only[length_take,length_drop]
      omega
   split at h
   ·cases h
   ·rename_i hx2
    split at h
    ·cases h
    ·rename_i l2 r h2
     injection h with h;injection h with h3 h4
     subst h3;subst h4
     have ob:=blbsP_sum h2 hb.1
     obtain⟨e1,e2,e3,e4⟩:=ob
     refine⟨by rw[length_cons,e1],?_,e3,fun y hy=>?_⟩
     ·rw[map_cons,sum_cons];omega
     ·rcases mem_cons.1 hy with rfl | hy
      ·omega
      ·exact e4 y hy
theorem pkP_ok{k:Nat}{bs:U8}{l:List (List UInt8)}{q:Nat} (h:pkP k bs=.ok (l,q)):l≠[]∧l.length≤65536∧(l.map List.length).sum≤bs.length∧q≤bs.length∧∀x∈l,x.length≤1048576:=by
 unfold pkP at h
 split at h
 ·cases h
 ·split at h
  ·split at h
   ·cases h
   ·split at h
    ·split at h
     ·cases h
     ·rename_i n q0 h3
      split at h
      ·cases h
      ·rename_i hn
       have ob:=blbsP_sum h (numP_ok h3).1
       obtain⟨e1,e2,e3,e4⟩:=ob
       refine⟨fun h0=>?_,by omega,by omega,e3,e4⟩
       subst h0
       have:n=0:=e1.symm
       omega
    ·cases h
  ·cases h
def UpR (b bl bk k:Nat) (bv:Value) (w0:World):Except Int (List (List UInt8)×Nat)→Ending→World→Prop
 | .ok (l,q),e,w'=>∃v B Lv LD,e=.returned (.tuple #[])∧B.map (·.2)=l∧OwnSl 76 1 v B.length (cellsB B) Lv∧BOk LD B∧Step [b,bl,bk] (RdB b bv q::(bl,blk 24 [v])::(bk,blk 3 [.int .i64 (k:Nat)])::(Lv++LD)) w0 w'
 | .error er,e,w'=>∃p v Lv,e=.panicked (pch b)∧v.oneCell'=true∧Step [b,bl,bk] (RF b bv p er::(bl,blk 24 [v])::(bk,blk 3 [.int .i64 (k:Nat)])::Lv) w0 w'
theorem UpR.err{b bl bk k:Nat}{bv:Value}{w0 w w':World}{er:Int}{r:Except Int (List (List UInt8)×Nat)}{p:Nat}{v:Value}{Lv:OL}{e:Ending} (hr:r=.error er) (hv:v.oneCell'=true) (hs:Step [b,bl,bk] (RdB b bv p::(bl,blk 24 [v])::(bk,blk 3 [.int .i64 (k:Nat)])::Lv) w0 w) (h:Thrown b bv er w e w'):UpR b bl bk k bv w0 r e w':=by
 subst hr
 obtain⟨p',he,h⟩:=h
 exact⟨p',v,Lv,he,hv,Step.call (L1:=[RdB b bv p]) hs h⟩
theorem UpR.ok{b bl bk k:Nat}{bv:Value}{w0 w':World}{r:Except Int (List (List UInt8)×Nat)}{l:List (List UInt8)}{q:Nat}{v:Value}{B:BL}{Lv LD:OL} (hr:r=.ok (l,q)) (hB:B.map (·.2)=l) (hv:OwnSl 76 1 v B.length (cellsB B) Lv) (hD:BOk LD B) (hs:Step [b,bl,bk] (RdB b bv q::(bl,blk 24 [v])::(bk,blk 3 [.int .i64 (k:Nat)])::(Lv++LD)) w0 w'):UpR b bl bk k bv w0 r (.returned (.tuple #[])) w':=by
 subst hr
 exact⟨v,B,Lv,LD,rfl,hB,hv,hD,hs⟩
theorem Step.u1{S:List Nat}{p x y:Nat×Obj}{Lx Lv LD:OL}{w w':World} (h:Step S ((p::Lx)++(x::y::(Lv++LD))) w w'):Step S (p::x::y::(Lv++(LD++Lx))) w w':=h.perm (by classical exact perm_iff_count.2 fun x=>by simp only[count_append,count_cons];omega)
theorem Step.u2{S:List Nat}{n p x y:Nat×Obj}{Lv X:OL}{w w':World} (h:Step S (n::p::x::y::(Lv++X)) w w'):Step S (Lv++(n::p::x::y::X)) w w':=h.perm (by classical exact perm_iff_count.2 fun x=>by simp only[count_append,count_cons];omega)
theorem Step.u3{S:List Nat}{n p x y:Nat×Obj}{Lv X:OL}{w w':World} (h:Step S (Lv++(n::p::x::y::X)) w w'):Step S (x::p::y::(Lv++X)) w w':=Step.tail (p:=n) (h.perm (by classical exact perm_iff_count.2 fun x=>by simp only[count_append,count_cons];omega))
set_option maxHeartbeats 2000000 in
theorem blobs1_at{b bl bk k:Nat}{bs:U8}{bv:Value}{r:Except Int (List (List UInt8)×Nat)} (hr:pkP k bs=r) (w0:World) (hk:k≤32) (hsl:Sl w0 1 bv bs.length (u8s bs)) (hout:Outside bv [b,bl,bk]) (hroom:Room bv) (hlen:bs.length≤4194304)
  (hO:Step [b,bl,bk] (RdB b bv 0::(bl,blk 24 [.slice none 0 0])::(bk,blk 3 [.int .i64 (k:Nat)])::[]) w0 w0):CP 139 #[pt b,pt bk,pt bl] w0 (UpR b bl bk k bv w0 r):=by
 have hs:=hO
 have hout1:Outside bv [b]:=by
  unfold Outside at hout⊢
  split
  ·intro h;exact hout (by simp at h⊢;exact .inl h)
  ·trivial
 have rd:∀{w:World}{p:Nat}{L:OL},Step [b,bl,bk] (RdB b bv p::L) w0 w→RdOk w b bs bv p:=fun h=>⟨Step.own (L1:=[_]) h,hsl.step h hout,hout1,hroom,hlen⟩
 have hst:∀{w w':World}{p:Nat}{L L2:OL},Step [b,bl,bk] (RdB b bv p::L) w0 w→Step [b] L2 w w'→Step [b,bl,bk] (L2++L) w0 w':=fun h h2=>Step.call (L1:=[RdB b bv _]) h h2
 unfold pkP at hr
 cases h1:numP bs 0 with
 | error er=>
  rw[h1] at hr
  refine calls (n:=42) Tryz.func139 rfl rfl rfl ?_
  refine cq<|sr<|wm<|WL.enterX (run_call en126 rfl rfl) (num_at h1 _ (rd hs) (by omega)) ?_
  rintro e w ⟨p',rfl,hq⟩
  refine⟨_,rfl,?_⟩
  exact fin_panic (.err hr.symm rfl hs ⟨p',rfl,hq⟩)
 | ok tp=>
  obtain⟨t,p1⟩:=tp
  rw[h1] at hr
  have hb1:=numP_ok h1
  simp only at hr
  by_cases ht:t=5
  ·rw[if_pos ht] at hr
   subst ht
   cases h2:numP bs p1 with
   | error er=>
    rw[h2] at hr
    refine calls (n:=42) Tryz.func139 rfl rfl rfl ?_
    refine cq<|sr<|wm<|wE rfl (run_call en126 rfl rfl) (num_at h1 _ (rd hs) (by omega)) ?_
    rintro e w ⟨rfl,hq⟩
    refine⟨_,rfl,?_⟩
    replace hs:=hst hs hq
    refine wV (run_bF (run_neq rfl rfl) (by show ¬((5:Nat):Int)≠5;decide))<|wZ ?_
    have hc2:∀{w:World}{p:Nat},Step [b,bl,bk] (RdB b bv p::(bl,blk 24 [.slice none 0 0])::(bk,blk 3 [.int .i64 (k:Nat)])::[]) w0 w→w.heap[bk]?=some (blk 3 [.int .i64 (k:Nat)]):=fun h=>h.has (bk,blk 3 [.int .i64 (k:Nat)]) (by simp)
    refine cF rfl<|ck<|cq<|cq<|CW.any (A:=fun w=>w.heap[bk]?=some (blk 3 [.int .i64 (k:Nat)])) (C:=fun w=>w.heap[bk]?=some (blk 3 [.int .i64 (k:Nat)])) 1000000 4 mixedP rfl ?_
    replace hs:=hs.drew
    refine aM 0 rfl<|aL 2 rfl ty3 rfl (fun w hs=>(At.of_blk hs).cell (j:=0) rfl)<|AL.one 1 (by kernel_rfl) rfl (hc2 hs) (hc2 hs) ?_
    refine WL.enterX (run_call en126 rfl rfl) (num_at h2 _ (rd hs) hb1.1) ?_
    rintro e w ⟨p',rfl,hq2⟩
    refine⟨_,rfl,?_⟩
    refine⟨rfl,fun _=>?_⟩
    exact fin_panic (.err hr.symm rfl hs ⟨p',rfl,hq2⟩)
   | ok up=>
    obtain⟨u,p2⟩:=up
    rw[h2] at hr
    have hb2:=numP_ok h2
    simp only at hr
    by_cases hu:u=k
    ·rw[if_pos hu] at hr
     subst hu
     have hc2:∀{w:World}{p:Nat},Step [b,bl,bk] (RdB b bv p::(bl,blk 24 [.slice none 0 0])::(bk,blk 3 [.int .i64 (u:Nat)])::[]) w0 w→w.heap[bk]?=some (blk 3 [.int .i64 (u:Nat)]):=fun h=>h.has (bk,blk 3 [.int .i64 (u:Nat)]) (by simp)
     refine calls (n:=42) Tryz.func139 rfl rfl rfl ?_
     refine cq<|sr<|wm<|wE rfl (run_call en126 rfl rfl) (num_at h1 _ (rd hs) (by omega)) ?_
     rintro e w ⟨rfl,hq⟩
     refine⟨_,rfl,?_⟩
     replace hs:=hst hs hq
     refine wV (run_bF (run_neq rfl rfl) (by show ¬((5:Nat):Int)≠5;decide))<|wZ<|CW.cond rfl (fun h=>?_) (fun h=>?_)
     ·cases h
     refine ck<|CW.seqM (fun f w=>Step [b,bl,bk] (RdB b bv p2::(bl,blk 24 [.slice none 0 0])::(bk,blk 3 [.int .i64 (u:Nat)])::[]) w0 w∧Holds f [(0,pt b),(2,pt bl)]) ?_ ?_
     ·skip
      refine cq<|CW.any (A:=fun w=>w.heap[bk]?=some (blk 3 [.int .i64 (u:Nat)])) (C:=fun w=>w.heap[bk]?=some (blk 3 [.int .i64 (u:Nat)])) 1000000 4 mixedP rfl ?_
      replace hs:=hs.drew
      refine aM 0 rfl<|aL 2 rfl ty3 rfl (fun w hs=>(At.of_blk hs).cell (j:=0) rfl)<|AL.one 1 (by kernel_rfl) rfl (hc2 hs) (hc2 hs) ?_
      refine wE rfl (run_call en126 rfl rfl) (num_at h2 _ (rd hs) hb1.1) ?_
      rintro e w ⟨rfl,hq2⟩
      refine⟨_,rfl,?_⟩
      replace hs:=hst hs hq2
      refine wZ<|⟨rfl,?_⟩
      refine aV 3 rfl (fun w hs=>run_bF (run_neq rfl rfl) (by omega))<|AL.end (by kernel_rfl) (hc2 hs) (hc2 hs) ?_
      refine cF rfl<|ck ?_
      exact⟨rfl,hs,rfl,rfl,trivial⟩
     clear hs
     rintro f w ⟨hs,hf⟩
     have ob:=hf.chain
     obtain⟨g,rfl⟩:=ob
     cases h3:numP bs p2 with
     | error er=>
      rw[h3] at hr
      refine sr<|wm<|WL.enterX (run_call en126 rfl rfl) (num_at h3 _ (rd hs) hb2.1) ?_
      rintro e w ⟨p',rfl,hq3⟩
      refine⟨_,rfl,?_⟩
      exact fin_panic (.err hr.symm rfl hs ⟨p',rfl,hq3⟩)
     | ok nq=>
      obtain⟨n,q0⟩:=nq
      rw[h3] at hr
      have hb3:=numP_ok h3
      simp only at hr
      by_cases hn:n=0∨65536<n
      ·rw[if_pos hn] at hr
       by_cases hn0:n=0
       ·subst hn0
        refine sr<|wm<|wE rfl (run_call en126 rfl rfl) (num_at h3 _ (rd hs) hb2.1) ?_
        rintro e w ⟨rfl,hq3⟩
        refine⟨_,rfl,?_⟩
        replace hs:=hst hs hq3
        refine wA<|wZ<|cq<|sr<|wm<|wV (run_bT (run_eql rfl rfl) (by rfl))<|wm<|wz<|wz<|pT<|wZ<|cT rfl<|cr<|wm ?_
        refine WL.enterX (run_call en127 rfl rfl) (fail_throw (bs:=bs) (er:=81) _ (rd hs) (by decide)) ?_
        rintro e w ⟨p',rfl,hq4⟩
        refine⟨_,rfl,?_⟩
        exact fin_panic (.err hr.symm rfl hs ⟨p',rfl,hq4⟩)
       ·refine sr<|wm<|wE rfl (run_call en126 rfl rfl) (num_at h3 _ (rd hs) hb2.1) ?_
        rintro e w ⟨rfl,hq3⟩
        refine⟨_,rfl,?_⟩
        replace hs:=hst hs hq3
        refine wA<|wZ<|cq<|sr<|wm<|eF<|wm<|wy<|wm<|wy<|xT<|pF<|wZ<|cT rfl<|cr<|wm ?_
        refine WL.enterX (run_call en127 rfl rfl) (fail_throw (bs:=bs) (er:=81) _ (rd hs) (by decide)) ?_
        rintro e w ⟨p',rfl,hq4⟩
        refine⟨_,rfl,?_⟩
        exact fin_panic (.err hr.symm rfl hs ⟨p',rfl,hq4⟩)
      ·rw[if_neg hn] at hr
       refine sr<|wm<|wE rfl (run_call en126 rfl rfl) (num_at h3 _ (rd hs) hb2.1) ?_
       rintro e w ⟨rfl,hq3⟩
       refine⟨_,rfl,?_⟩
       replace hs:=hst hs hq3
       refine wA<|wZ<|cq<|sr<|wm<|eF<|wm<|wy<|wm<|wy<|xF<|pF<|wZ ?_
       refine cF rfl<|ck<|sr<|wm<|wm<|wZ<|cB<|CW.loop (fun m f w'=>∃i B q v Lv LD,i≤n∧m=n - i∧q≤bs.length∧B.length=i∧r=preB (B.map (·.2)) (blbsP bs (n - i) q)∧OwnSl 76 1 v B.length (cellsB B) Lv∧BOk LD B∧Step [b,bl,bk] (RdB b bv q::(bl,blk 24 [v])::(bk,blk 3 [.int .i64 (u:Nat)])::(Lv++LD)) w0 w'∧Holds f [(0,pt b),(2,pt bl),(27,.int .i64 n),(28,.int .i64 i)]) (m:=n) ?_ ?_
       ·exact⟨0,[],q0,_,[],[],by omega,by omega,hb3.1,rfl,by rw[map_nil,preB_nil];exact hr.symm,.nil _ _,(fun t ht=>by cases ht),hs,rfl,rfl,rfl,rfl,trivial⟩
       ·clear hs hr
        rintro m f w ⟨i,B,q,v,Lv,LD,hi,rfl,hq0,hll,hr,hv,hok,hs,hf⟩
        have ob:=hf.chain
        obtain⟨g,rfl⟩:=ob
        refine sr<|wV (run_lss rfl rfl)<|wZ<|cq<|CW.condP rfl (fun h=>?_) (fun h=>?_)
        ·have hlt:i<n:=by omega
         have ob:∃j,n - i=j+1:=⟨n - i - 1,by omega⟩
         obtain⟨j,hj⟩:=ob
         rw[hj] at hr
         cases h4:bytesP bs q with
         | error er=>
          rw[blbsP_stop _ h4] at hr
          refine ck<|cq<|cB<|sr<|wm<|WL.enterX (run_call en140 rfl rfl) (bytes_at h4 _ (rd hs) hq0) ?_
          rintro e w ⟨p',rfl,hq4⟩
          refine⟨_,rfl,?_⟩
          exact fin_panic (.err hr hv.one hs ⟨p',rfl,hq4⟩)
         | ok xq=>
          obtain⟨x,q'⟩:=xq
          have hb4:=bytesP_ok h4
          by_cases hx:1048576<x.length
          ·rw[blbsP_long _ h4 hx] at hr
           refine ck<|cq<|cB<|sr<|wm<|wE rfl (run_call en140 rfl rfl) (bytes_at h4 _ (rd hs) hq0) ?_
           rintro e w ⟨vx,Lx,rfl,hvx,hq4⟩
           refine⟨_,rfl,?_⟩
           replace hs:=Step.u1 (hst hs hq4)
           have ob:=hvx.form
           obtain⟨xa,xc,rfl⟩:=ob
           refine wA<|wZ<|cq<|sr<|wm<|wL u76 rfl<|xT<|wZ<|cT rfl<|cr<|wm<|WL.enterX (run_call en127 rfl rfl) (fail_throw (bs:=bs) (er:=2) _ (rd hs) (by decide)) ?_
           rintro e w ⟨p',rfl,hq5⟩
           refine⟨_,rfl,?_⟩
           exact fin_panic (.err hr hv.one hs ⟨p',rfl,hq5⟩)
          ·rw[blbsP_step _ h4 hx] at hr
           refine ck<|cq<|cB<|sr<|wm<|wE rfl (run_call en140 rfl rfl) (bytes_at h4 _ (rd hs) hq0) ?_
           rintro e w ⟨vx,Lx,rfl,hvx,hq4⟩
           refine⟨_,rfl,?_⟩
           replace hs:=Step.u1 (hst hs hq4)
           have ob:=hvx.form
           obtain⟨xa,xc,rfl⟩:=ob
           refine wA<|wZ ?_
           have hok2:BOk (LD++Lx) (B++[(.slice xa x.length xc,x)]):=(hok.mono fun p hp=>mem_append_left _ hp).app fun t ht=>by
            obtain rfl:=mem_singleton.1 ht
            exact⟨⟨Lx,hvx,fun p hp=>mem_append_right _ hp⟩,by show x.length≤_;omega⟩
           refine cq<|sr<|wm<|wL u76 rfl<|xF<|wZ<|cF rfl<|ck<|cr<|wl ty24 rfl (hs.c1 rfl)<|wm<|WL.buildSlice (cs:=[.slice xa x.length xc]) (vs:=[(0,.slice xa x.length xc)]) u24 ty76 rfl (by decide) rfl (filled_s _ _ rfl) rfl hs (fun b39 w hs=>?_)
           have hsl39:Sl w 1 (.slice (some ⟨b39,0,none⟩) 1 1) 1 [Value.slice xa x.length xc]:=.own1 hs rfl
           replace hs:=Step.u2 hs
           refine WL.append u24 u24 ty76 rfl (by decide) rfl rfl (hv) (hs) (hsl39) (Cells1.of_all rfl) (by omega) rfl (fun v40 Lv40 w hv40 hs=>?_)
           replace hs:=Step.u3 hs
           refine ws1 ty24 rfl rfl (hv40.one) (hs) (fun w hs=>?_)
           refine wZ ?_
           replace hs:=hs.swap
           refine cr<|wP ((i+1:Nat):Int)<|wm<|wZ<|(show _∧_ from⟨rfl,_,?_,i+1,B++[(.slice xa x.length xc,x)],q',_,_,LD++Lx,by omega,rfl,hb4.1,?_,?_,?_,hok2,hs,rfl,rfl,rfl,rfl,trivial⟩)
           ·omega
           ·simp[hll]
           ·rw[hr,map_append,show n - (i+1)=j by omega];rfl
           ·rw[length_append,cellsB_snoc]
            exact hv40
        ·obtain rfl:i=n:=by omega
         refine CW.exit<|fin_end0 rfl ?_
         have e:r=.ok (B.map (·.2),q):=by
          rw[hr,show i - i=0 by omega]
          simp[blbsP,preB]
         exact .ok e rfl hv hok hs
    ·rw[if_neg hu] at hr
     have hc2:∀{w:World}{p:Nat},Step [b,bl,bk] (RdB b bv p::(bl,blk 24 [.slice none 0 0])::(bk,blk 3 [.int .i64 (k:Nat)])::[]) w0 w→w.heap[bk]?=some (blk 3 [.int .i64 (k:Nat)]):=fun h=>h.has (bk,blk 3 [.int .i64 (k:Nat)]) (by simp)
     refine calls (n:=42) Tryz.func139 rfl rfl rfl ?_
     refine cq<|sr<|wm<|wE rfl (run_call en126 rfl rfl) (num_at h1 _ (rd hs) (by omega)) ?_
     rintro e w ⟨rfl,hq⟩
     refine⟨_,rfl,?_⟩
     replace hs:=hst hs hq
     refine wV (run_bF (run_neq rfl rfl) (by show ¬((5:Nat):Int)≠5;decide))<|wZ<|cF rfl<|ck<|cq<|cq<|CW.any (A:=fun w=>w.heap[bk]?=some (blk 3 [.int .i64 (k:Nat)])) (C:=fun w=>w.heap[bk]?=some (blk 3 [.int .i64 (k:Nat)])) 1000000 4 mixedP rfl ?_
     replace hs:=hs.drew
     refine aM 0 rfl<|aL 2 rfl ty3 rfl (fun w hs=>(At.of_blk hs).cell (j:=0) rfl)<|AL.one 1 (by kernel_rfl) rfl (hc2 hs) (hc2 hs) ?_
     refine wE rfl (run_call en126 rfl rfl) (num_at h2 _ (rd hs) hb1.1) ?_
     rintro e w ⟨rfl,hq2⟩
     refine⟨_,rfl,?_⟩
     replace hs:=hst hs hq2
     refine wZ<|⟨rfl,?_⟩
     refine aV 3 rfl (fun w hs=>run_bT (run_neq rfl rfl) (by omega))<|AL.end (by kernel_rfl) (hc2 hs) (hc2 hs) ?_
     refine cT rfl<|cr<|wm<|WL.enterX (run_call en127 rfl rfl) (fail_throw (bs:=bs) (er:=3) _ (rd hs) (by decide)) ?_
     rintro e w ⟨p',rfl,hq3⟩
     refine⟨_,rfl,?_⟩
     exact fin_panic (.err hr.symm rfl hs ⟨p',rfl,hq3⟩)
  ·rw[if_neg ht] at hr
   refine calls (n:=42) Tryz.func139 rfl rfl rfl ?_
   refine cq<|sr<|wm<|wE rfl (run_call en126 rfl rfl) (num_at h1 _ (rd hs) (by omega)) ?_
   rintro e w ⟨rfl,hq⟩
   refine⟨_,rfl,?_⟩
   replace hs:=hst hs hq
   refine wV (run_bT (run_neq rfl rfl) (by show(t:Int)≠5;omega))<|wZ<|cT rfl<|cr<|wm<|WL.enterX (run_call en127 rfl rfl) (fail_throw (bs:=bs) (er:=52) _ (rd hs) (by decide)) ?_
   rintro e w ⟨p',rfl,hq2⟩
   refine⟨_,rfl,?_⟩
   exact fin_panic (.err hr.symm rfl hs ⟨p',rfl,hq2⟩)
def upP (k:Nat) (bs:(List UInt8)):Int×List (List UInt8):=match pkP k bs with
 | .error e=>(e,[])
 | .ok (l,q)=>if q<bs.length then (13,[]) else (0,l)
theorem upP_ok{k:Nat}{bs:U8} (h:(upP k bs).1=0):(upP k bs).2≠[]∧(upP k bs).2.length≤65536∧((upP k bs).2.map List.length).sum≤bs.length∧∀x∈(upP k bs).2,x.length≤1048576:=by
 cases h1:pkP k bs with
 | error e=>
  have e1:upP k bs=(e,[]):=by unfold upP;rw[h1]
  rw[e1] at h
  exact absurd h (pkP_err h1)
 | ok lq=>
  obtain⟨l,q⟩:=lq
  have e1:upP k bs=if q<bs.length then (13,[]) else (0,l):=by unfold upP;rw[h1]
  by_cases hq:q<bs.length
  ·rw[e1,if_pos hq] at h
   cases h
  ·rw[e1,if_neg hq]
   have h2:=pkP_ok h1
   exact⟨h2.1,h2.2.1,h2.2.2.1,h2.2.2.2.2⟩
def UrR (bl bk k:Nat) (bs:(List UInt8)) (w0:World) (e:Ending) (w':World):Prop:=∃u B Lv G,e=.returned (.int .i64 (upP k bs).1)∧Cell1 u∧((upP k bs).1=0→OwnSl 76 1 u B.length (cellsB B) Lv∧BOk G B∧B.map (·.2)=(upP k bs).2)∧Step [bl,bk] ((bl,blk 24 [u])::(bk,blk 3 [.int .i64 (k:Nat)])::(Lv++G)) w0 w'
theorem Step.u4{S:List Nat}{p a b c d:Nat×Obj}{X Y:OL}{w0 w:World} (h:Step S ((p::a::b::X)++(c::d::Y)) w0 w):Step S (p::c::d::a::b::(X++Y)) w0 w:=
 h.perm (by classical exact perm_iff_count.2 fun x=>by simp only[count_append,count_cons];omega)
theorem Step.u7{S:List Nat}{a b c d e:Nat×Obj}{X:OL}{w0 w:World} (h:Step S (b::a::c::d::e::X) w0 w):Step S (a::d::e::b::c::X) w0 w:=
 h.perm (by classical exact perm_iff_count.2 fun x=>by simp only[count_cons];omega)
set_option maxHeartbeats 2000000 in
theorem readB_at{bl bk k:Nat}{bs:U8}{v:Value} (w0:World) (hk:k≤32) (hv:Sl w0 1 v bs.length (u8s bs)) (hout:u8s bs=[]∨Outside v [bl,bk]) (hlen:bs.length≤4194304) (hO:Step [bl,bk] [(bl,blk 24 [.slice none 0 0]),(bk,blk 3 [.int .i64 (k:Nat)])] w0 w0) :
  CP 124 #[v,.func (.func 139) #[] #[pt bk,pt bl]] w0 (UrR bl bk k bs w0):=by
 have hs:=hO
 refine callsDef (n:=14) Tryz.func124 rfl rfl rfl ?_
 refine sr<|WL.alloc ty36 rfl hs (fun b4 w hs=>?_)
 refine wZ<|sr<|wm<|wE rfl (run_call en83 rfl rfl) (clone_spec (s:=bs) _ (hv.stepK hs hout) (by omega)) ?_
 rintro e w ⟨v',Lv',rfl,hv',hq⟩
 refine⟨_,rfl,?_⟩
 have ob:=hv'.form
 obtain⟨va,vc,rfl⟩:=ob
 replace hs:=(hs.call0 hq).append_comm
 refine wV (run_build rfl (bld_reader _ _ _ _))<|WL.box (cs:=[.slice va bs.length vc,.int .i64 0,.bool false,.int .i64 0]) rfl rfl rfl hs (fun b9 w hs=>?_)
 refine WL.alloc ty228 rfl hs (fun b5 w hs=>?_)
 refine ws1 ty228 rfl rfl (rfl) (hs) (fun w hs=>?_)
 refine wZ ?_
 replace hs:=Step.u7 (show Step [bl,bk] ((b5,blk 228 [pt b9])::(b9,blk 266 [.slice va bs.length vc,.int .i64 0,.bool false,.int .i64 0])::(b4,blk 36 [.int .i64 0])::(bl,blk 24 [.slice none 0 0])::(bk,blk 3 [.int .i64 (k:Nat)])::Lv') w0 w from hs)
 have hown:Step [b9,bl,bk] [RdB b9 (.slice va bs.length vc) 0,(bl,blk 24 [.slice none 0 0]),(bk,blk 3 [.int .i64 (k:Nat)])] w w:=Step.own (L1:=[_,_,_]) hs
 have hcomm:=Step.append_comm (L1:=[_,_,_,_,_]) hs
 have hsl:=hv'.sl hcomm
 have hvo:Outside (.slice va bs.length vc) [b9,bl,bk]:=hv'.outside fun p hp h=>hcomm.disj p hp (by simp at h⊢;rcases h with h | h | h <;> simp[h])
 refine sr<|wV (run_makeFuncC rfl)<|WL.defer (run_deferV (cap:=[pt b5,pt b4]) rfl) ?_
 refine wZ ?_
 have hdec:=fun r hr=>blobs1_at (r:=r) hr w hk hsl hvo (hv'.room (by decide)) hlen hown
 cases hr:pkP k bs with
 | error er=>
  have hne:=pkP_err hr
  have he:upP k bs=(er,[]):=by unfold upP;rw[hr]
  refine sr<|wm<|wl ty228 rfl ((hs.tail.tail.tail.c0 rfl))<|WL.enterX (run_callV (cap:=[pt bk,pt bl]) en139 rfl rfl) (hdec _ hr) ?_
  rintro e w ⟨p,u,Lu,rfl,hu1,hq2⟩
  refine⟨_,rfl,?_⟩
  replace hs:=Step.u4 (X:=Lu) (Step.call (L1:=[RdB b9 _ 0,(bl,_),(bk,_)]) hs hq2)
  refine finD_panic (cap:=[pt b5,pt b4]) en159 ((rd1_panic hne _ (Step.own (L1:=[_,_,_]) hs)).mono fun e u' w' h=>?_)
  obtain⟨h1,h2,hq3⟩:=h
  refine⟨h1,h2,fun a ha=>?_⟩
  replace hs:=Step.call (L1:=[_,_,_]) hs hq3
  exact⟨_,res_cell1 ha rfl rfl (run_loadVar1 ty36 (hs.c2 rfl)),u,[],Lu,Lv',by rw[he],hu1,fun h=>absurd (by rw[he] at h;exact h) hne,Step.dropL (L1:=[_,_,_]) hs⟩
 | ok lq=>
  obtain⟨l,q⟩:=lq
  refine sr<|wm<|wl ty228 rfl ((hs.tail.tail.tail.c0 rfl))<|wE rfl (run_callV (cap:=[pt bk,pt bl]) en139 rfl rfl) (hdec _ hr) ?_
  rintro e w ⟨u,B,Lu,LD,rfl,hB,hu,hD,hq2⟩
  refine⟨_,rfl,?_⟩
  refine wZ ?_
  replace hs:=Step.front [_,_] (Step.u4 (X:=Lu++LD) (Step.call (L1:=[RdB b9 _ 0,(bl,_),(bk,_)]) hs hq2))
  refine sr<|ws1 ty36 rfl rfl (rfl) (hs) (fun w hs=>?_)
  refine wZ ?_
  replace hs:=hs.rot3.rot3
  refine CW.ret ?_
  refine finD_ret (cap:=[pt b5,pt b4]) en159 ((rd1_ret _ (Step.own (L1:=[_,_,_]) hs)).mono fun e u' w' h=>?_)
  obtain⟨h1,h2,hq3⟩:=h
  refine⟨h1,h2,fun a ha=>?_⟩
  replace hs:=Step.call (L1:=[_,_,_]) hs hq3
  refine⟨_,res_cell1 ha rfl rfl (run_loadVar1 ty36 (hs.c2 rfl)),u,B,Lu,LD++Lv',?_,hu.one,?_,by rw[←append_assoc];exact Step.dropL (L1:=[_,_,_]) hs⟩
  ·unfold upP
   rw[hr]
   by_cases hlt:q<bs.length <;> simp[hlt]
  ·intro h0
   refine⟨hu,hD.mono fun p hp=>mem_append_left _ hp,?_⟩
   unfold upP at h0⊢
   rw[hr] at h0⊢
   simp only at h0⊢
   split at h0
   ·cases h0
   ·rename_i hlt;rw[if_neg hlt];exact hB
theorem blobs_spec{k:Nat}{bs:U8}{v:Value} (w0:World) (hk:k≤32) (hv:Sl w0 1 v bs.length (u8s bs)) (hlen:bs.length≤4194304) :
  CP 96 #[.int .i64 (k:Nat),v] w0 fun e w'=>∃u B Lv G,e=.returned (.tuple #[u,.int .i64 (upP k bs).1])∧((upP k bs).1=0→OwnSl 76 1 u B.length (cellsB B) Lv∧BOk G B∧B.map (·.2)=(upP k bs).2)∧Step [] (Lv++G) w0 w':=by
 have hs:Step [] [] w0 w0:=Step.refl w0
 have ob:=hv.form
 obtain⟨a,c,rfl⟩:=ob
 refine calls (n:=11) Tryz.func96 rfl rfl rfl ?_
 refine sr<|WL.box rfl (rfl) rfl hs (fun b2 w hs=>?_)
 refine WL.alloc ty24 rfl hs (fun b4 w hs=>?_)
 refine wA<|wZ<|sr<|wm<|wV (run_makeFuncC rfl)<|wE rfl (run_call en124 rfl rfl) (readB_at _ hk (hv.step0 hs.clear) (Outside.newer hv hs (fun k hk=>by simp at hk⊢;exact hk)) hlen (Step.own (L1:=[_,_]) hs)) ?_
 rintro e w ⟨u,B,Lv,G,rfl,hu1,hok,hq⟩
 refine⟨_,rfl,?_⟩
 replace hs:=Step.call (L1:=[_,_]) hs hq
 refine wA<|wZ<|sr<|wl ty24 rfl (hs.c0 rfl)<|wm<|ws1 ty24 rfl rfl (hu1) (hs) (fun w hs=>?_)
 refine wA<|wZ<|CW.ret ?_
 refine fin_cellTmp rfl rfl (run_loadVar1 ty24 (hs.c0 rfl)) ?_
 exact⟨u,B,Lv,G,rfl,hok,Step.tail (Step.tail (show Step [] (_::_::(Lv++G)) w0 w by simpa using hs))⟩
end Go.Gx
namespace Go.Gx
open Go.Proofs List
attribute [local irreducible] shaL cutD frontL
theorem findX_ins' {b:Blb}{X:List Blb} (h:SortedX X){d:U8} (hd:d≠b.d):findX d (insX b X)=findX d X:=by
 have hp:=insX_perm b h
 rw[findX_perm hp ((hp.map _).nodup_iff.1 (insX_sorted b h).nodup) d,findX,List.find?_cons]
 have h1:decide (b.d=d)=false:=by simpa using fun e=>hd e.symm
 rw[h1]
 exact findX_del hd X
def digsK (k:Nat) (l:List (List UInt8)):List (List UInt8):=l.map fun x=>frontL x k
theorem digsK_app (k:Nat) (l:List (List UInt8)) (x:U8):digsK k (l++[x])=digsK k l++[frontL x k]:=by simp[digsK]
theorem digsK_len (k:Nat) (l:List (List UInt8)):(digsK k l).length=l.length:=by simp[digsK]
def putAll (s:AS) (l:List (List UInt8)):AS:=l.foldl (fun s x=>(s.put x).2.2) s
theorem putAll_app (s:AS) (l:List (List UInt8)) (x:U8):putAll s (l++[x])=((putAll s l).put x).2.2:=by simp[putAll,foldl_append]
structure PutOk (k:Nat) (l:List (List UInt8)) (s:AS):Prop where
 ok:s.Ok
 hk:s.k=k
 cap:s.cap=67108864
 few:s.Few l.length
 used:usedX s.X=(l.map fun x=>x.length+32).sum
 has:∀d,s.has d=decide (d∈digsK k l)
 get:∀x∈l,s.get (frontL x k)=(x,0)
 num:s.X.length=l.length
theorem PutOk.nil{k:Nat} (h1:1≤k) (h2:k≤32):PutOk k [] (newS k 67108864):=
 ⟨⟨h1,h2,Nat.le_refl _,List.Pairwise.nil,(fun b hb=>by cases hb),Nat.zero_le _⟩,rfl,rfl,⟨Nat.zero_le _,Nat.zero_le _,Nat.zero_le _⟩,rfl,(fun d=>rfl),(fun x hx=>by cases hx),rfl⟩
theorem PutOk.add{k:Nat}{l:List (List UInt8)}{s:AS} (h:PutOk k l s){x:U8} (hn:frontL x k∉digsK k l) (hx:x.length≤1048576) (hu:((l++[x]).map fun x=>x.length+32).sum≤67108864) :
  (s.put x).1=frontL x k∧(s.put x).2.1=0∧PutOk k (l++[x]) (s.put x).2.2:=by
 have hk:=h.hk
 have h0:findX (frontL x k) s.X=none:=by
  have:=h.has (frontL x k)
  rw[decide_eq_false hn] at this
  unfold AS.has at this
  cases hf:findX (frontL x k) s.X with
  | none=>rfl
  | some b=>rw[hf] at this;cases this
 have hus:=used_ins h.ok.sorted ⟨frontL x k,x,s.last+1⟩
 simp only[h0] at hus
 have hsum:((l++[x]).map fun x=>x.length+32).sum=(l.map fun x=>x.length+32).sum+(x.length+32):=by simp
 have hlay:({ s with puts:=s.puts+1 }:AS).lay (frontL x k) x=some ⟨s.k,s.cap,s.last+1,s.gets,s.puts+1,insX ⟨frontL x k,x,s.last+1⟩ s.X⟩:=by
  unfold AS.lay
  rw[if_pos]
  show usedX (insX ⟨frontL x k,x,s.last+1⟩ s.X)≤s.cap
  have:=h.cap
  have:=h.used
  omega
 have hp:=put_new hx (by rw[hk]) h0 hlay
 have hok:=h.ok.put x
 rw[hp] at hok⊢
 have hle:=h.few
 have h32:=frontL_len (x:=x) (k:=k) (by have:=h.ok.k2;omega)
 refine⟨rfl,rfl,hok,hk,h.cap,⟨?_,?_,?_⟩,?_,fun d=>?_,fun y hy=>?_,?_⟩
 ·have:=hle.last
  simp only[length_append,length_singleton];omega
 ·have:=hle.gets
  simp only[length_append,length_singleton];omega
 ·have:=hle.puts
  simp only[length_append,length_singleton];omega
 ·have:=h.used
  show usedX (insX ⟨frontL x k,x,s.last+1⟩ s.X)=_
  rw[hsum];omega
 ·rw[digsK_app]
  show(findX d (insX ⟨frontL x k,x,s.last+1⟩ s.X)).isSome=_
  by_cases hd:d=frontL x k
  ·subst hd
   rw[findX_ins (b:=⟨frontL x k,x,s.last+1⟩) h.ok.sorted]
   simp
  ·rw[findX_ins' (b:=⟨frontL x k,x,s.last+1⟩) h.ok.sorted hd]
   have:=h.has d
   unfold AS.has at this
   rw[this]
   simp[hd]
 ·rcases mem_append.1 hy with hy | hy
  ·have hne:frontL y k≠frontL x k:=fun e=>hn (e▸mem_map_of_mem hy)
   have h1:=h.get y hy
   unfold AS.get at h1⊢
   show(match findX (frontL y k) (insX ⟨frontL x k,x,s.last+1⟩ s.X) with | none=>([],41) | some b=>if frontL b.x s.k=frontL y k then (b.x,0) else ([],42))=_
   rw[findX_ins' (b:=⟨frontL x k,x,s.last+1⟩) h.ok.sorted hne]
   exact h1
  ·obtain rfl:=mem_singleton.1 hy
   unfold AS.get
   show(match findX (frontL y k) (insX ⟨frontL y k,y,s.last+1⟩ s.X) with | none=>([],41) | some b=>if frontL b.x s.k=frontL y k then (b.x,0) else ([],42))=_
   rw[findX_ins (b:=⟨frontL y k,y,s.last+1⟩) h.ok.sorted]
   simp only[hk,if_true]
 ·show(insX ⟨frontL x k,x,s.last+1⟩ s.X).length=_
  rw[(insX_perm _ h.ok.sorted).length_eq,delX_none h0,length_cons,h.num,length_append]
  rfl
theorem sum_take{l:List (List UInt8)} (i:Nat):((l.take i).map fun x=>x.length+32).sum≤(l.map List.length).sum+32*l.length:=by
 have h1:∀l:List (List UInt8),(l.map fun x=>x.length+32).sum=(l.map List.length).sum+32*l.length:=fun l=>by
  induction l with
  | nil=>rfl
  | cons x l ih=>rw[map_cons,sum_cons,ih,map_cons,sum_cons,length_cons];omega
 have h2:∀(l:List (List UInt8)) (i:Nat),((l.take i).map fun x=>x.length+32).sum≤(l.map fun x=>x.length+32).sum:=fun l=>by
  induction l with
  | nil=>intro i;simp
  | cons x l ih=>
   intro i
   cases i with
   | zero=>simp
   | succ i=>rw[take_succ_cons,map_cons,sum_cons,map_cons,sum_cons];have:=ih i;omega
 rw[←h1]
 exact h2 l i
theorem nodup_snoc{l:List (List UInt8)}{d:U8}:(l++[d]).Nodup↔l.Nodup∧d∉l:=by
 rw[nodup_append]
 constructor
 ·rintro⟨h1,_,h3⟩
  exact⟨h1,fun h=>h3 d h d (by simp) rfl⟩
 ·rintro⟨h1,h2⟩
  exact⟨h1,nodup_cons.2 ⟨by simp,nodup_nil⟩,fun a ha b hb e=>by
   rw[mem_singleton] at hb
   exact h2 (hb▸e▸ha)⟩
theorem eqD_spec{u v:Value}{l m:List (List UInt8)}{w0:World} (hu:Dgs w0 u l) (hv:Dgs w0 v m):CP 141 #[u,v] w0 (Ret0 (.bool (decide (l=m))) w0):=by
 have hs:Step [] [] w0 w0:=Step.refl w0
 have ob:=hu.form
 obtain⟨a,c,rfl⟩:=ob
 have ob:=hv.form
 obtain⟨a2,c2,rfl⟩:=ob
 have hsm:=hu.small
 have hsm2:=hv.small
 have ob:∃r,decide (l=m)=r:=⟨_,rfl⟩
 obtain⟨r,hr⟩:=ob
 rw[hr]
 by_cases hlen:l.length=m.length
 ·refine calls (n:=26) Tryz.func141 rfl rfl rfl ?_
  refine sr<|wA<|wZ<|cq<|sr<|wm<|wL u35 rfl<|wm<|wL u35 rfl<|nF<|wZ<|CW.cond rfl (fun h=>?_) (fun h=>?_)
  ·cases h
  refine ck<|cq<|sr<|wm<|wL u35 rfl<|wm<|wZ<|cB<|CW.loop (fun z f w'=>∃i,i≤l.length∧z=l.length - i∧l.take i=m.take i∧Step [] [] w0 w'∧Holds f [(0,.slice a l.length c),(1,.slice a2 m.length c2),(12,.int .i64 (l.length:Nat)),(13,.int .i64 (i:Nat))]) (m:=l.length) ?_ ?_
  ·exact⟨0,Nat.zero_le _,rfl,by simp,hs,rfl,rfl,rfl,rfl,trivial⟩
  ·rintro z f w ⟨i,hi,rfl,heq,hs,hf⟩
   have ob:=hf.chain
   obtain⟨g,rfl⟩:=ob
   by_cases hlt:i<l.length
   ·have ob:∃e,l[i]?=some e:=⟨_,getElem?_eq_getElem hlt⟩
    obtain⟨e,he⟩:=ob
    have ob:∃e,m[i]?=some e:=⟨_,getElem?_eq_getElem (by omega)⟩
    obtain⟨e2,he2⟩:=ob
    have ob:=hu.at he
    obtain⟨b,off,c',hb,hat⟩:=ob
    cases hb
    have ob:=hv.at he2
    obtain⟨b2,off2,c2',hb2,hat2⟩:=ob
    cases hb2
    have hel:=hu.len e (mem_of_getElem? he)
    have hel2:(u8s e).length=32:=by rw[u8s,length_map,hel]
    have hem:=hv.len e2 (mem_of_getElem? he2)
    have hem2:(u8s e2).length=32:=by rw[u8s,length_map,hem]
    refine sr<|lT<|wZ<|cq<|CW.cond rfl (fun h=>?_) (fun h=>?_)
    ·refine ck<|cq<|cB<|sr<|wm<|wA<|wZ ?_
     by_cases hed:e=e2
     ·refine cq<|CW.quiet mixedP (by kernel_rfl) hs ?_
      refine qm<|qm<|qI u35 ty44 rfl rfl<|qV (fun w hs=>run_loadN ty44 rfl hel2 (hat.step hs.clear (by simp)))<|qm<|qm<|qI u35 ty44 rfl rfl<|qV (fun w hs=>run_loadN ty44 rfl hem2 (hat2.step hs.clear (by simp)))<|qV (fun w hs=>run_bF (run_neDig hel hem rfl rfl) (fun h=>h hed))<|QL.nil (fun w hs=>?_)
      refine CW.cond rfl (fun h=>?_) (fun h=>?_)
      ·cases h
      refine ck<|cr<|wP ((i+1:Nat):Int)<|wm<|wZ<|(show _∧_ from⟨rfl,_,?_,i+1,hlt,rfl,?_,hs,rfl,rfl,rfl,rfl,trivial⟩)
      ·omega
      ·rw[take_add_one,take_add_one,he,he2,heq,hed]
     ·refine cq<|CW.quiet mixedP (by kernel_rfl) hs ?_
      refine qm<|qm<|qI u35 ty44 rfl rfl<|qV (fun w hs=>run_loadN ty44 rfl hel2 (hat.step hs.clear (by simp)))<|qm<|qm<|qI u35 ty44 rfl rfl<|qV (fun w hs=>run_loadN ty44 rfl hem2 (hat2.step hs.clear (by simp)))<|qV (fun w hs=>run_bT (run_neDig hel hem rfl rfl) hed)<|QL.nil (fun w hs=>?_)
      refine CW.cond rfl (fun h=>?_) (fun h=>?_)
      ·refine sr<|wA<|wZ<|CW.ret ?_
       refine fin_ret1 rfl ?_
       exact⟨congrArg (fun b=>Ending.returned (.bool b)) (by rw[←hr];symm;rw[decide_eq_false_iff_not];intro h;rw[h,he2] at he;exact hed (Option.some.inj he).symm),hs⟩
      ·cases h
    ·cases h
   ·obtain rfl:i=l.length:=by omega
    have hlm:l=m:=by
     rw[take_length,hlen,take_length] at heq;exact heq
    refine sr<|lF<|wZ<|cq<|CW.cond rfl (fun h=>?_) (fun h=>?_)
    ·cases h
    refine CW.exit<|sr<|wA<|wZ<|CW.ret ?_
    refine fin_ret1 rfl ?_
    exact⟨congrArg (fun b=>Ending.returned (.bool b)) (by rw[←hr];simp[hlm]),hs⟩
 ·refine calls (n:=26) Tryz.func141 rfl rfl rfl ?_
  refine sr<|wA<|wZ<|cq<|sr<|wm<|wL u35 rfl<|wm<|wL u35 rfl<|nT<|wZ<|CW.cond rfl (fun h=>?_) (fun h=>?_)
  ·refine sr<|wA<|wZ<|CW.ret ?_
   refine fin_ret1 rfl ?_
   exact⟨congrArg (fun b=>Ending.returned (.bool b)) (by rw[←hr];symm;rw[decide_eq_false_iff_not];intro h;exact hlen (congrArg _ h)),hs⟩
  ·cases h
theorem eqB_spec{u v:Value}{x:U8}{w0:World} (hu:Sl w0 1 u x.length (u8s x)) (hv:Sl w0 1 v x.length (u8s x)):CP 92 #[u,v] w0 (Ret0 (.bool true) w0):=by
 have hs:Step [] [] w0 w0:=Step.refl w0
 have ob:=hu.form
 obtain⟨a,c,rfl⟩:=ob
 have ob:=hv.form
 obtain⟨a2,c2,rfl⟩:=ob
 refine calls (n:=10) Tryz.func92 rfl rfl rfl ?_
 refine sr<|wA<|wZ<|sr<|wm<|wV (run_toString u76 u9 u5 rfl (hu.step0 hs))<|wm<|wV (run_toString u76 u9 u5 rfl (hv.step0 hs))<|wV (run_bT (run_strEq rfl rfl) (by rfl))<|wA<|wZ<|CW.ret ?_
 refine fin_ret1 rfl ?_
 exact⟨rfl,hs⟩
end Go.Gx
