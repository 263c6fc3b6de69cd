/- The document's going behind the parts: to. The document's Behind: walked. A directory's parts are few. No program in sight. Copying, plain: what is laid in another Store, blob by blob. No program in sight. The program's Copy: walked, for any two Stores, or one. The document's Copy: walked, for any t -/
import Derived.Test.YtplmnkogkfhaiaaGreatP10
import Derived.Test.YtplmnkogkfhaiaaGreatP1
set_option linter.unusedVariables false
set_option linter.unusedSimpArgs false
set_option maxRecDepth 100000
namespace Go.Gx
open Go.Proofs List
attribute [local irreducible] shaL cutD frontL
theorem Goes.split{P:List UInt8→List (List UInt8)}{x:List UInt8}{ds g o g' o':List (List UInt8)}{k:Nat} (h:Goes P (x::ds) g o g' o' k):∃g2 o2 k1 k2,Goes P [x] g o g2 o2 k1∧Goes P ds g2 o2 g' o' k2∧k1≤k∧k2≤k:=by
 cases h with
 | skip hx h=>exact⟨g,o,1,_,.skip hx (.nil _ _),h,by omega,by omega⟩
 | go hx h1 h2=>exact⟨_,_,_,_,.go hx h1 (.nil _ _),h2,by omega,by omega⟩
theorem Goes.len{P:List UInt8→List (List UInt8)}{ds g o g' o':List (List UInt8)}{k:Nat} (h:Goes P ds g o g' o' k) (j:Nat) (hl:o.length+j≤g.length):o'.length+j≤g'.length:=by
 have ob:=h.ext
 obtain⟨n,t,rfl,rfl,hp⟩:=ob
 have:=hp.length_eq
 rw[length_append,length_append]
 omega
section
variable{S:List Nat}{a b q:Nat×Obj}{Lg Lo Lu A X B:List (Nat×Obj)}{w w':World}
theorem Step.fin0{L D L1:List (Nat×Obj)}{w0 w:World} (hw:Lives (L++D) w0) (h:Step ((L++D).map (·.1)) (L1++D) w0 w):Step (L.map (·.1)) L1 w0 w:=by
 have:=Step.fin (M:=[]) (L1:=L1) (D1:=[]) hw h
 simpa using this
theorem Step.tA (h:Step S (a::((b::(Lg++Lo))++B)) w w'):Step S (a::b::(Lg++(Lo++B))) w w':=by
 have e:(b::(Lg++Lo))++B=b::(Lg++(Lo++B)):=by simp[append_assoc]
 rw[e] at h;exact h
theorem Step.tC (h:Step S ((a::Lu)++((b::(Lg++Lo))++B)) w w'):Step S (a::b::(Lo++(Lg++(Lu++B)))) w w':=h.perm (by classical exact perm_iff_count.2 fun x=>by simp only[count_append,count_cons];omega)
theorem Step.tE (h:Step S (Lu++(b::a::(Lg++(Lo++B)))) w w'):Step S ((a::Lu)++((b::(Lg++Lo))++B)) w w':=h.perm (by classical exact perm_iff_count.2 fun x=>by simp only[count_append,count_cons];omega)
theorem Step.tF (h:Step S (b::a::(Lo++(Lg++(Lu++B)))) w w'):Step S ((b::(Lg++Lo))++B) w w':=Step.dropL (L1:=a::Lu) (h.perm (L':=(a::Lu)++((b::(Lg++Lo))++B)) (by classical exact perm_iff_count.2 fun x=>by simp only[count_append,count_cons];omega))
theorem Step.lvB (h:Step S (b::a::(Lg++(Lo++B))) w w'):Lives B w':=Lives.of (L2:=b::a::(Lg++Lo)) (h.perm (by classical exact perm_iff_count.2 fun x=>by simp only[count_append,count_cons];omega))
end
def GRep (bG br:Nat) (vL:Value) (g o:List (List UInt8)) (W:List (Nat×Obj)):Prop:=
 ∃vg Lg vo Lo,W=(bG,blk 225 [.pointer (some ⟨br,0,none⟩),vL,vg,vo])::(Lg++Lo)∧OwnSl 44 32 vg g.length (digsL g) Lg∧OwnSl 44 32 vo o.length (digsL o) Lo
section
variable{br bG:Nat}{s:AS}{D R LvL:List (Nat×Obj)}{r:List UInt8}{m:List (List UInt8×Bool)}{vL:Value}
set_option maxHeartbeats 16000000 in
theorem to_spec (hR:RRep br s D R) (ok:s.Ok) (hM:Met s r m) (hL:OwnSl 137 33 vL m.length (rowsSt m) LvL) (hLD:∀p∈LvL,p∈D) (hm:m.length≤65536) (h32m:∀p∈m,p.1.length=32) (hpl:∀d,(partsM s m d).length<1000000000) :
  ∀(k:Nat){d:List UInt8}{g o g' o':List (List UInt8)}{W:List (Nat×Obj)}{w0:World},Goes (partsM s m) [d] g o g' o' k→d∈ordM m→g.Nodup→(∀x∈g,x∈ordM m)→o.length≤g.length→GRep bG br vL g o W→Lives (W++(R++D)) w0→
  CP 120 #[.pointer (some ⟨bG,0,none⟩),.agg (u8s d).toArray] w0 fun e w'=>∃W',e=.returned (.tuple #[])∧GRep bG br vL g' o' W'∧Step (W.map (·.1)) W' w0 w':=by
 intro k
 induction k using Nat.strongRecOn with
 | ind k ih=>
 intro d g o g' o' W w0 hG hdU hnd hgU hol hW hw
 have hw0:=hw
 have hd32:=hM.len d hdU
 have hdl:(u8s d).length=32:=by rw[u8s,length_map,hd32]
 have hgl:=nodup_len hnd hgU
 have hom:=ordM_len m
 have hW0:=hW
 obtain⟨vg,Lg,vo,Lo,hWe,hvg,hvo⟩:=hW
 subst hWe
 have ob:∃B,R++D=B:=⟨_,rfl⟩
 obtain⟨B,hB⟩:=ob
 rw[hB] at hw
 have hs:Step (List.map (·.1) (((bG,blk 225 [.pointer (some ⟨br,0,none⟩),vL,vg,vo])::(Lg++Lo))++B)) (((bG,blk 225 [.pointer (some ⟨br,0,none⟩),vL,vg,vo])::(Lg++Lo))++B) w0 w0:=hw
 have ob:∃S,List.map (·.1) (((bG,blk 225 [.pointer (some ⟨br,0,none⟩),vL,vg,vo])::(Lg++Lo))++B)=S:=⟨_,rfl⟩
 obtain⟨S,hS⟩:=ob
 rw[hS] at hs
 have ob:=hvg.form
 obtain⟨ga,gc,rfl⟩:=ob
 have ob:=hL.form
 obtain⟨la,lc,rfl⟩:=ob
 have hfin:∀{W':List (Nat×Obj)}{w:World},Step S (W'++B) w0 w→Step (List.map (·.1) ((bG,blk 225 [.pointer (some ⟨br,0,none⟩),.slice la m.length lc,.slice ga g.length gc,vo])::(Lg++Lo))) W' w0 w:=fun h=>Step.fin0 hw (by rw[hS];exact h)
 have hhas:∀{w:World},Step S ((bG,blk 225 [.pointer (some ⟨br,0,none⟩),.slice la m.length lc,.slice ga g.length gc,vo])::(Lg++(Lo++B))) w0 w→CP 66 #[.slice ga g.length gc,.agg (u8s d).toArray] w (Ret0 (.bool (decide (d∈g))) w):=fun h=>hasR_spec (Dgs.own hvg (fun p hp=>h.has p (by simp[hp])) (fun x hx=>hM.len x (hgU x hx)) (by omega)) hd32
 have hDB:∀p∈D,p∈B:=fun p hp=>hB▸mem_append_right _ hp
 refine calls (n:=54) Tryz.func120 rfl rfl rfl ?_
 refine sr<|WL.box (cs:=u8s d) rfl rfl rfl hs (fun b3 w hs=>?_)
 refine wZ ?_
 replace hs:=Step.tA hs
 by_cases hdg:d∈g
 ·have hr:g'=g∧o'=o:=by
   cases hG with
   | skip _ h=>cases h;exact⟨rfl,rfl⟩
   | go h _ _=>exact absurd hdg h
  rw[decide_eq_true hdg] at hhas
  refine cq<|cq<|CW.quiet mixedP (by kernel_rfl) hs ?_
  refine qm<|qn rfl<|qF 2 u225 rfl ty35 rfl<|qV (fun w hs=>run_load1 ty35 rfl (hs.c1 (v:=.slice ga g.length gc) rfl))<|qV (fun w hs=>run_loadN ty44 rfl hdl hs.a0)<|QL.enter rfl (fun w=>run_call en66 rfl rfl) (fun w hs=>hhas hs.tail) ?_
  refine QL.nil (fun w hs=>?_)
  refine CW.cond rfl (fun h=>?_) (fun h=>?_)
  ·skip
   refine CW.ret ?_
   refine fin_ret0 rfl ?_
   exact⟨_,rfl,by rw[hr.1,hr.2];exact hW0,hfin (by rw[cons_append,append_assoc];exact hs.tail)⟩
  ·cases h
 ·obtain⟨g1,o1,k1,hg1,hg',ho',hk1⟩:∃g1 o1 k1,Goes (partsM s m) (partsM s m d) (g++[d]) o g1 o1 k1∧g'=g1∧o'=o1++[d]∧k1<k:=by
   cases hG with
   | skip h _=>exact absurd h hdg
   | go _ h1 h2=>cases h2;exact⟨_,_,_,h1,rfl,rfl,by omega⟩
  rw[decide_eq_false hdg] at hhas
  refine cq<|cq<|CW.quiet mixedP (by kernel_rfl) hs ?_
  refine qm<|qn rfl<|qF 2 u225 rfl ty35 rfl<|qV (fun w hs=>run_load1 ty35 rfl (hs.c1 (v:=.slice ga g.length gc) rfl))<|qV (fun w hs=>run_loadN ty44 rfl hdl hs.a0)<|QL.enter rfl (fun w=>run_call en66 rfl rfl) (fun w hs=>hhas hs.tail) ?_
  refine QL.nil (fun w hs=>?_)
  refine CW.cond rfl (fun h=>?_) (fun h=>?_)
  ·cases h
  refine ck<|CW.seqM (fun f w=>∃vg' Lg',OwnSl 44 32 vg' (g++[d]).length (digsL (g++[d])) Lg'∧Step S ((bG,blk 225 [.pointer (some ⟨br,0,none⟩),.slice la m.length lc,vg',vo])::(b3,blk 44 (u8s d))::(Lg'++(Lo++B))) w0 w∧Holds f [(0,.pointer (some ⟨bG,0,none⟩)),(3,.pointer (some ⟨b3,0,none⟩))]) ?_ ?_
  ·skip
   refine CW.any (A:=fun w=>Step S [(b3,blk 44 (u8s d))] w0 w) (C:=fun w=>Step S [(b3,blk 44 (u8s d)),(bG,blk 225 [.pointer (some ⟨br,0,none⟩),.slice la m.length lc,.slice ga g.length gc,vo])] w0 w) 10 11 mixedP rfl ?_
   replace hs:=hs.drew
   refine aM 0 rfl<|aM 1 rfl<|aV 2 rfl (fun w hs=>run_nilCheck rfl)<|aV 3 rfl (fun w hs=>run_field (o':=2) u225 rfl ty35 rfl rfl rfl)<|aV 4 rfl (fun w hs=>run_load1 ty35 rfl (hs.c1 rfl))<|aV 5 rfl (fun w hs=>run_loadN ty44 rfl hdl hs.a0)<|AL.one 6 (by kernel_rfl) rfl (by exact Step.dropR (L1:=[(b3,_)]) hs) (by exact Step.dropR (L1:=[_,_]) hs) ?_
   refine WL.buildSlice (cs:=u8s d) u35 ty44 rfl (by decide) rfl (filled1 hdl rfl) rfl hs (fun b18 w hs=>?_)
   have hsl18:Sl w 32 (.slice (some ⟨b18,0,none⟩) 1 1) 1 (u8s d):=.own1 hs (by rw[hdl])
   replace hs:=Step.in3 hs
   refine wZ<|⟨rfl,?_⟩
   refine AL.one 7 (by kernel_rfl) rfl (by exact Step.dropR (L1:=[(b3,_)]) (hs.dropL (L1:=Lg)).tail) (by exact Step.dropR (L1:=[_,_]) (hs.dropL (L1:=Lg)).tail) ?_
   refine WL.append u35 u35 ty44 rfl (by decide) rfl rfl (hvg) (hs) (hsl18) (Cells1.u8s _) (by omega) rfl (fun v19 Lv19 w hv19 hs=>?_)
   replace hs:=Step.out3 hs
   refine wZ<|⟨rfl,?_⟩
   refine AL.valA 8 rfl (by kernel_rfl) rfl (fun w hs=>run_nilCheck rfl) ?_
   refine aV 9 rfl (fun w hs=>run_field (o':=2) u225 rfl ty35 rfl rfl rfl)<|AL.one 10 (by kernel_rfl) rfl (by exact Step.dropR (L1:=[(b3,_)]) hs) (by exact Step.dropR (L1:=[_,_]) hs) ?_
   refine ws1 ty35 rfl rfl (hv19.one) (hs.swap) (fun w hs=>?_)
   refine wZ<|⟨rfl,?_⟩
   refine AL.relax (by kernel_rfl) ?_
   refine AL.end (by kernel_rfl) (by exact Step.dropR (L1:=[(b3,_)]) hs.tail) (trivial) ?_
   exact⟨rfl,v19,Lv19,by rw[length_append,digsL_snoc];exact hv19,hs,rfl,rfl,trivial⟩
  clear hs
  rintro f w ⟨vg',Lg',hvg',hs,hf⟩
  have ob:=hf.chain
  obtain⟨gg,rfl⟩:=ob
  refine CW.seqM (fun f w=>∃u Lu,OwnSl 44 32 u (partsM s m d).length (digsL (partsM s m d)) Lu∧Step S (((b3,blk 44 (u8s d))::Lu)++(((bG,blk 225 [.pointer (some ⟨br,0,none⟩),.slice la m.length lc,vg',vo])::(Lg'++Lo))++B)) w0 w∧Holds f [(0,.pointer (some ⟨bG,0,none⟩)),(3,.pointer (some ⟨b3,0,none⟩)),(4,u)]) ?_ ?_
  ·have hpr:=fun{w:World} (h:Step S ((bG,blk 225 [.pointer (some ⟨br,0,none⟩),.slice la m.length lc,vg',vo])::(b3,blk 44 (u8s d))::(Lg'++(Lo++B))) w0 w)=>partsR_spec (w0:=w) (d:=d) hR ok (by rw[hB];exact Step.lvB h) (hL.slH (fun p hp=>h.has p (by simp[hDB p (hLD p hp)]))) h32m hm (fun h=>hM.got _ h) hd32
   refine CW.any (A:=fun w=>Step S [(bG,blk 225 [.pointer (some ⟨br,0,none⟩),.slice la m.length lc,vg',vo]),(b3,blk 44 (u8s d))] w0 w) (C:=fun w=>Step S [(bG,blk 225 [.pointer (some ⟨br,0,none⟩),.slice la m.length lc,vg',vo]),(b3,blk 44 (u8s d))] w0 w) 1000000 11 mixedP rfl ?_
   replace hs:=hs.drew
   refine aM 0 rfl<|aV 1 rfl (fun w hs=>run_nilCheck rfl)<|aV 2 rfl (fun w hs=>run_field (o':=0) u225 rfl ty40 rfl rfl rfl)<|aV 3 rfl (fun w hs=>run_load1 ty40 rfl (hs.c0 (v:=.pointer (some ⟨br,0,none⟩)) rfl))<|aM 4 rfl<|aV 5 rfl (fun w hs=>run_nilCheck rfl)<|aV 6 rfl (fun w hs=>run_field (o':=1) u225 rfl ty133 rfl rfl rfl)<|aV 7 rfl (fun w hs=>run_load1 ty133 rfl (hs.c0 (v:=.slice la m.length lc) rfl))<|aV 8 rfl (fun w hs=>run_loadN ty44 rfl hdl hs.a1)<|AL.one 9 (by kernel_rfl) rfl (by exact Step.dropR (L1:=[_,_]) hs) (by exact Step.dropR (L1:=[_,_]) hs) ?_
   refine wE rfl (run_call en158 rfl rfl) (hpr hs) ?_
   rintro e w ⟨u,Lu,rfl,hu,hq⟩
   refine⟨_,rfl,?_⟩
   replace hs:=Step.call0 hs hq
   refine wZ<|⟨rfl,?_⟩
   refine aV 10 rfl (fun w hs=>run_assign)<|AL.end (by kernel_rfl) (by exact Step.dropR (L1:=[_,_]) (hs.dropL (L1:=Lu))) (by exact Step.dropR (L1:=[_,_]) (hs.dropL (L1:=Lu))) ?_
   exact⟨rfl,u,Lu,hu,Step.tE hs,rfl,rfl,rfl,trivial⟩
  clear hs
  rintro f w ⟨u,Lu,hu,hs,hf⟩
  have ob:=hf.chain
  obtain⟨gg,rfl⟩:=ob
  have ob:∃l,partsM s m d=l:=⟨_,rfl⟩
  obtain⟨l,hl⟩:=ob
  have hll:=hpl d
  rw[hl] at hu hg1 hll
  have hlU:∀x∈l,x∈ordM m:=fun x hx=>hM.sub d hdU x (hl▸hx)
  have ob:=hu.form
  obtain⟨ua,uc,rfl⟩:=ob
  have hnd1:(g++[d]).Nodup:=by
   rw[nodup_append]
   refine⟨hnd,nodup_cons.2 ⟨by simp,nodup_nil⟩,fun a ha b hb he=>?_⟩
   rw[mem_singleton] at hb
   exact hdg (hb▸he▸ha)
  have hgU1:∀x∈g++[d],x∈ordM m:=fun x hx=>by
   rcases mem_append.1 hx with hx | hx
   ·exact hgU x hx
   ·rw[mem_singleton] at hx;exact hx▸hdU
  refine CW.seqM (fun f w=>∃vg2 Lg2 vo2 Lo2,OwnSl 44 32 vg2 g1.length (digsL g1) Lg2∧OwnSl 44 32 vo2 o1.length (digsL o1) Lo2∧o1.length≤65536∧Step S ((b3,blk 44 (u8s d))::(bG,blk 225 [.pointer (some ⟨br,0,none⟩),.slice la m.length lc,vg2,vo2])::(Lo2++(Lg2++(Lu++B)))) w0 w∧Holds f [(0,.pointer (some ⟨bG,0,none⟩)),(3,.pointer (some ⟨b3,0,none⟩))]) ?_ ?_
  ·refine sr<|wA<|wZ<|cB<|CW.loop (fun z f w'=>∃i gi oi Wi ki,i≤l.length∧z=l.length - i∧Goes (partsM s m) (l.drop i) gi oi g1 o1 ki∧ki≤k1∧gi.Nodup∧(∀x∈gi,x∈ordM m)∧oi.length+1≤gi.length∧GRep bG br (.slice la m.length lc) gi oi Wi∧Step S (((b3,blk 44 (u8s d))::Lu)++(Wi++B)) w0 w'∧Holds f [(0,.pointer (some ⟨bG,0,none⟩)),(3,.pointer (some ⟨b3,0,none⟩)),(4,.slice ua l.length uc),(5,.int .i64 (i:Nat))]) (m:=l.length) ?_ ?_
   ·exact⟨0,g++[d],o,_,k1,Nat.zero_le _,rfl,hg1,Nat.le_refl _,hnd1,hgU1,by rw[length_append,length_singleton];omega,⟨vg',Lg',vo,Lo,rfl,hvg',hvo⟩,hs,rfl,rfl,rfl,rfl,trivial⟩
   clear hs
   rintro z f w ⟨i,gi,oi,Wi,ki,hil,rfl,hGi,hki,hndi,hgUi,holi,hWi,hs,hf⟩
   have ob:=hf.chain
   obtain⟨gs,rfl⟩:=ob
   by_cases hlt:i<l.length
   ·have ob:∃x,l[i]=x:=⟨_,rfl⟩
    obtain⟨x,hx⟩:=ob
    have hxm:x∈l:=hx▸getElem_mem hlt
    have hx32:=hM.len x (hlU x hxm)
    have hxl:(u8s x).length=32:=by rw[u8s,length_map,hx32]
    rw[drop_eq_getElem_cons hlt,hx] at hGi
    have ob:=hGi.split
    obtain⟨g2,o2,ka,kb,hGx,hGr,hka,hkb⟩:=ob
    have ob:=hu.some1 (by omega)
    obtain⟨bu,cu,more,hu1,hu2,hu3⟩:=ob
    cases hu1
    subst hu2
    have hxat:At w bu (0+i*32) (u8s x):=digsL_at (fun y hy=>hM.len y (hlU y hy)) (At.of_blk (hs.has (bu,blk 44 (digsL l++more)) (by simp))).left (by rw[getElem?_eq_getElem hlt,hx])
    have hto:=fun h=>ih ka (by omega) (w0:=w) hGx (hlU x hxm) hndi hgUi (by omega) hWi h
    rw[hB] at hto
    refine cq<|sr<|wm<|wm<|wV (run_lenSl u35 rfl)<|wV (run_bT (run_lss rfl rfl) (by omega))<|wZ<|CW.cond rfl (fun h=>?_) (fun h=>?_)
    ·refine ck<|cq<|cB<|cr<|wm<|wm<|wm<|wV (run_ixSlN u35 ty44 rfl rfl (by omega))<|wV (run_loadN ty44 rfl hxl hxat)<|wE rfl (run_call en120 rfl rfl) (hto (Own.live (A:=[_,_]) hs)) ?_
     rintro e w ⟨W2,rfl,hG2,hq⟩
     refine⟨_,rfl,?_⟩
     replace hs:=Own.set (A:=[_,_]) hs hq
     refine wZ<|cr<|wm<|wV (run_add (c:=((i+1:Nat):Int)) rfl rfl (by omega) (by omega))<|wA<|wZ<|(show _∧_ from⟨rfl,_,?_,i+1,g2,o2,W2,kb,hlt,rfl,hGr,Nat.le_trans hkb hki,hGx.nodup hndi,?_,hGx.len 1 holi,hG2,hs,rfl,rfl,rfl,rfl,trivial⟩)
     ·omega
     ·exact hGx.sub hM.sub (fun y hy=>by obtain rfl:=mem_singleton.1 hy;exact hlU _ hxm) hgUi
    ·cases h
   ·obtain rfl:i=l.length:=by omega
    rw[drop_length] at hGi
    refine cq<|sr<|wm<|wm<|wV (run_lenSl u35 rfl)<|wV (run_bF (run_lss rfl rfl) (by omega))<|wZ<|CW.cond rfl (fun h=>?_) (fun h=>?_)
    ·cases h
    have hgl1:=nodup_len hndi hgUi
    cases hGi
    obtain⟨vg2,Lg2,vo2,Lo2,hWe,hv2,hv3⟩:=hWi
    subst hWe
    refine CW.exit ?_
    exact⟨rfl,vg2,Lg2,vo2,Lo2,hv2,hv3,by omega,Step.tC hs,rfl,rfl,trivial⟩
  clear hs
  rintro f w ⟨vg2,Lg2,vo2,Lo2,hv2,hv3,hol2,hs,hf⟩
  have ob:=hf.chain
  obtain⟨gt,rfl⟩:=ob
  have ob:=hv3.form
  obtain⟨oa,oc,rfl⟩:=ob
  refine CW.any (A:=fun w=>Step S [(b3,blk 44 (u8s d))] w0 w) (C:=fun w=>Step S [(b3,blk 44 (u8s d)),(bG,blk 225 [.pointer (some ⟨br,0,none⟩),.slice la m.length lc,vg2,.slice oa o1.length oc])] w0 w) 10 11 mixedP rfl ?_
  replace hs:=hs.drew
  refine aM 0 rfl<|aM 1 rfl<|aV 2 rfl (fun w hs=>run_nilCheck rfl)<|aV 3 rfl (fun w hs=>run_field (o':=3) u225 rfl ty35 rfl rfl rfl)<|aV 4 rfl (fun w hs=>run_load1 ty35 rfl (hs.c1 rfl))<|aV 5 rfl (fun w hs=>run_loadN ty44 rfl hdl hs.a0)<|AL.one 6 (by kernel_rfl) rfl (by exact Step.dropR (L1:=[(b3,_)]) hs) (by exact Step.dropR (L1:=[_,_]) hs) ?_
  refine WL.buildSlice (cs:=u8s d) u35 ty44 rfl (by decide) rfl (filled1 hdl rfl) rfl hs (fun b50 w hs=>?_)
  have hsl50:Sl w 32 (.slice (some ⟨b50,0,none⟩) 1 1) 1 (u8s d):=.own1 hs (by rw[hdl])
  replace hs:=Step.in3 hs
  refine wZ<|⟨rfl,?_⟩
  refine AL.one 7 (by kernel_rfl) rfl (by exact Step.dropR (L1:=[(b3,_)]) (hs.dropL (L1:=Lo2)).tail) (by exact Step.dropR (L1:=[_,_]) (hs.dropL (L1:=Lo2)).tail) ?_
  refine WL.append u35 u35 ty44 rfl (by decide) rfl rfl (hv3) (hs) (hsl50) (Cells1.u8s _) (by omega) rfl (fun v51 Lv51 w hv51 hs=>?_)
  replace hs:=Step.out3 hs
  refine wZ<|⟨rfl,?_⟩
  refine AL.valA 8 rfl (by kernel_rfl) rfl (fun w hs=>run_nilCheck rfl) ?_
  refine aV 9 rfl (fun w hs=>run_field (o':=3) u225 rfl ty35 rfl rfl rfl)<|AL.one 10 (by kernel_rfl) rfl (by exact Step.dropR (L1:=[(b3,_)]) hs) (by exact Step.dropR (L1:=[_,_]) hs) ?_
  refine ws1 ty35 rfl rfl (hv51.one) (hs.swap) (fun w hs=>?_)
  refine wZ<|⟨rfl,?_⟩
  refine AL.relax (by kernel_rfl) ?_
  refine AL.end (by kernel_rfl) (by exact Step.dropR (L1:=[(b3,_)]) hs.tail) (trivial) ?_
  refine fin_end0 rfl ?_
  have hsF:=Step.tF hs
  refine⟨_,rfl,⟨vg2,Lg2,v51,Lv51,rfl,by rw[hg'];exact hv2,?_⟩,hfin hsF⟩
  rw[ho',length_append,digsL_snoc];exact hv51
end
theorem bld_go (a b:Option Addr) (n c:Nat) (w:World):(Instr.build 225 #[(0,.pointer a),(1,.slice b n c)]).run Tryz.prog w=.ok (.agg #[.pointer a,.slice b n c,.slice none 0 0,.slice none 0 0]) w:=by kernel_rfl
theorem Step.nilR{S:List Nat}{L:List (Nat×Obj)}{w w':World} (h:Step S (L++[]) w w'):Step S L w w':=by rw[append_nil] at h;exact h
section
variable{br:Nat}{s:AS}{D R LvL:List (Nat×Obj)}{r:List UInt8}{m:List (List UInt8×Bool)}{vL:Value}{gf of:List (List UInt8)}{k:Nat}{w0:World}
theorem behindR_spec (hR:RRep br s D R) (ok:s.Ok) (hM:Met s r m) (hL:OwnSl 137 33 vL m.length (rowsSt m) LvL) (hLD:∀p∈LvL,p∈D) (hm:m.length≤65536) (h32m:∀p∈m,p.1.length=32) (hpl:∀d,(partsM s m d).length<1000000000) (hG:Goes (partsM s m) [r] [] [] gf of k) (hw:Lives (R++D) w0) :
  CP 71 #[.pointer (some ⟨br,0,none⟩),vL] w0 fun e w'=>∃v Lv,e=.returned v∧OwnSl 44 32 v of.length (digsL of) Lv∧Step [] Lv w0 w':=by
 have hrU:=mem_of_getElem? hM.head
 have hr32:=hM.len r hrU
 have hrl:(u8s r).length=32:=by rw[u8s,length_map,hr32]
 obtain⟨pb,hp0⟩:∃pb,m[0]?=some (r,pb):=by
  cases hme:m with
  | nil=>have h:=hM.head;rw[hme] at h;cases h
  | cons p rest=>
   obtain⟨pd,pb⟩:=p
   have h:=hM.head
   rw[hme,ordM_head pb rest] at h
   obtain rfl:=Option.some.inj h
   exact⟨pb,rfl⟩
 have hm0:0<m.length:=(List.getElem?_eq_some_iff.1 hp0).1
 have hL0:=hL
 have ob:=hL.some1 hm0
 obtain⟨bl,cl,more,hl1,hl2,hl3⟩:=ob
 subst hl1
 have hs:Step [] [] w0 w0:=Step.refl w0
 have hrow:At w0 bl (0+0*33) (u8s r):=(rowsSt_at h32m (At.of_blk (hw.has (bl,blk 137 (rowsSt m++more)) (mem_append_right _ (hLD _ (by rw[hl2];simp))))).left hp0).left
 refine calls (n:=20) Tryz.func71 rfl rfl rfl ?_
 refine sr<|wA<|wZ<|sr<|wm<|wm<|wV (run_build rfl (bld_go _ _ _ _ _))<|WL.box (cs:=[.pointer (some ⟨br,0,none⟩),.slice (some ⟨bl,0,none⟩) m.length cl,.slice none 0 0,.slice none 0 0]) rfl rfl rfl hs (fun b9 w hs=>?_)
 refine wA<|wZ ?_
 have hG0:GRep b9 br (.slice (some ⟨bl,0,none⟩) m.length cl) [] [] [(b9,blk 225 [.pointer (some ⟨br,0,none⟩),.slice (some ⟨bl,0,none⟩) m.length cl,.slice none 0 0,.slice none 0 0])]:=⟨_,[],_,[],rfl,OwnSl.nil _ _,OwnSl.nil _ _⟩
 refine sr<|wm<|wm<|wV (run_ixSlN (i:=0) u133 ty137 rfl rfl (by omega))<|wF 0 u137 rfl ty44 rfl<|wV (run_loadN ty44 rfl hrl (hrow.step hs.clear (by simp)))<|wE rfl (run_call en120 rfl rfl) (to_spec (w0:=w) hR ok hM hL0 hLD hm h32m hpl k hG hrU nodup_nil (fun x hx=>by cases hx) (Nat.le_refl _) hG0 (Lives.mk (Step.call0 hw hs))) ?_
 rintro e w ⟨W1,rfl,hG1,hq⟩
 refine⟨_,rfl,?_⟩
 replace hs:=Step.nilR (Step.call (L1:=[_]) (L:=[]) hs hq)
 refine wZ ?_
 obtain⟨vg,Lg,vo,Lo,hWe,hvg,hvo⟩:=hG1
 subst hWe
 refine sr<|wm<|wn rfl<|wF 3 u225 rfl ty35 rfl<|wl ty35 rfl (hs.c0 (v:=vo) rfl)<|wA<|wZ<|CW.ret ?_
 refine fin_ret1 rfl ?_
 exact⟨_,Lo,rfl,hvo,Step.dropL (L1:=Lg) hs.tail⟩
end
end Go.Gx
namespace Go.Gx
open Go.Proofs List
theorem entsP_len{bs:List UInt8}:∀{n:Nat}{a:List UInt8}{p q:Nat}{l:List Ent},entsP bs n a p=.ok (l,q)→l.length=n
 | 0,a,p,q,l,h=>by
  unfold entsP at h
  injection h with h;injection h with h1 h2
  subst h1;rfl
 | n+1,a,p,q,l,h=>by
  unfold entsP at h
  split at h
  ·cases h
  ·rename_i x q' h1
   split at h
   ·cases h
   ·rename_i l' r h2
    injection h with h;injection h with h3 h4
    subst h3
    rw[length_cons,entsP_len h2]
theorem decL_len (y:List UInt8):(decL y).length≤1024:=by
 unfold decL
 split
 ·unfold readP
  split
  ·exact Nat.zero_le _
  ·rename_i l q h
   split
   ·exact Nat.zero_le _
   ·unfold decP at h
    split at h
    ·cases h
    ·split at h
     ·split at h
      ·cases h
      ·rename_i n q' hm
       have h1:=entsP_len h
       have h2:=(mostP_ok hm).2.2
       show l.length≤1024
       omega
     ·cases h
 ·exact Nat.zero_le _
theorem partsM_len (s:AS) (m:List (List UInt8×Bool)) (d:List UInt8):(partsM s m d).length<1000000000:=by
 unfold partsM
 split
 ·unfold partsD
  rw[length_map]
  have:=decL_len (s.get d).1
  omega
 ·decide
end Go.Gx
namespace Go.Gx
open Go.Proofs List
attribute [local irreducible] shaL cutD frontL
def copyR (t:AS):List (List UInt8×List UInt8)→Nat→Nat×Int×AS
 | [],n=>(n,0,t)
 | (d,b)::l,n=>if (t.put b).2.1≠0 then (n,(((t.put b).2.1:Nat):Int),(t.put b).2.2) else copyR (t.put b).2.2 l (if (t.put b).2.2.stamp d=t.stamp d then n else n+1)
section
variable{t:AS}{d b:List UInt8}{l:List (List UInt8×List UInt8)}{n:Nat}
def cpR (r:Int×WS) (s t:AS) (of:List (List UInt8)):Nat×Int×AS:=if r.1≠0 then (0,r.1,t) else copyR t (of.map fun x=>(x,(s.get x).1)) 0
theorem put_32 (ok:t.Ok) (y:List UInt8):(t.put y).1.length=32:=by
 unfold AS.put
 simp only
 split
 ·rfl
 ·have h1:∀{r:List UInt8×Nat×AS},r=(match ({ t with puts:=t.puts+1 }:AS).lay (frontL y t.k) y with | some s2=>(frontL y t.k,0,s2) | none=>(zD,43,{ t with puts:=t.puts+1 }))→r.1.length=32:=fun {r} hr=>by
   cases hl:({ t with puts:=t.puts+1 }:AS).lay (frontL y t.k) y with
   | none=>rw[hl] at hr;rw[hr];rfl
   | some s2=>rw[hl] at hr;rw[hr];exact frontL_len ok.k2
  split
  ·split
   ·exact frontL_len ok.k2
   ·split
    ·rfl
    ·exact h1 rfl
  ·exact h1 rfl
end
theorem Met.of_le{s:AS}{d:List UInt8}{m:List (List UInt8×Bool)}{gf of:List (List UInt8)}{k:Nat} (h:Met s d m) (hG:Goes (partsM s m) [d] [] [] gf of k):of.length≤m.length∧∀x∈of,x∈ordM m:=by
 have h1:=hG.nodup nodup_nil
 have h2:=hG.sub h.sub (fun x hx=>by obtain rfl:=mem_singleton.1 hx;exact mem_of_getElem? h.head) (fun x hx=>by cases hx)
 have ob:=hG.ext
 obtain⟨n,t,e1,e2,hp⟩:=ob
 rw[nil_append] at e1 e2
 subst e1
 subst e2
 have h3:=nodup_len h1 h2
 have h4:=ordM_len m
 exact⟨by rw[hp.length_eq];omega,fun x hx=>h2 x (hp.mem_iff.1 hx)⟩
section
variable{S:List Nat}{a p q:Nat×Obj}{A B C E O Z X Y:List (Nat×Obj)}{w w':World}
theorem Step.fin3 (hw:Lives (A++(O++X)) w) (h:Step (List.map (·.1) (A++(O++X))) (Y++X) w w'):Step (List.map (·.1) (A++O)) Y w w':=
 Step.narrow (W:=A++O) (D:=X) (by rw[append_assoc];exact hw) (by rw[append_assoc];exact h)
end
section
variable{bf tp:Nat}{s t1:AS}{Q:List (Nat×Obj)→List (Nat×Obj)→Prop}{Lt O D:List (Nat×Obj)}{d:List UInt8}{r:Int×WS}{rn rd rb:Int}{N k kw:Nat}{gf of:List (List UInt8)}{w0:World}
def WkTo (bf tp:Nat) (s t1:AS) (Q:List (Nat×Obj)→List (Nat×Obj)→Prop) (Lt O D:List (Nat×Obj)) (r:Int×WS) (w:World) (e:Ending) (w':World):Prop:=
 ∃v L1 O1 D1 M,e=.returned (.tuple #[v,.int .i64 r.1])∧PRep tp t1 (D1++D) L1∧Q (D1++D) O1∧(r.1=0→∃bm,v=.pointer (some ⟨bm,0,none⟩)∧MetRep bm s r.2.m (D1++D) M)∧Step (List.map (·.1) (Lt++O)) (L1++(O1++(M++D1))) w w'
end
section
variable{br:Nat}{s:AS}{D R:List (Nat×Obj)}{d:List UInt8}{w0:World}
end
section
variable{bf tp:Nat}{s t1:AS}{I:AS→Prop}{Q:List (Nat×Obj)→List (Nat×Obj)→Prop}{Rt O D:List (Nat×Obj)}{d:List UInt8}{r:Int×WS}{rn rd rb:Int}{N k kw:Nat}{gf of:List (List UInt8)}{w0:World}
def WkToR (bf tp:Nat) (t1:AS) (Q:List (Nat×Obj)→List (Nat×Obj)→Prop) (Rt O D:List (Nat×Obj)) (r:Int×WS) (w:World) (e:Ending) (w':World):Prop:=
 ∃v R1 O1 D1 Lv,e=.returned (.tuple #[v,.int .i64 r.1])∧RRep tp t1 (D1++D) R1∧Q (D1++D) O1∧(r.1=0→OwnSl 137 33 v r.2.m.length (rowsSt r.2.m) Lv)∧Step (List.map (·.1) (Rt++O)) (R1++(O1++(Lv++D1))) w w'
end
section
variable{bp br tp tr:Nat}{s t:AS}{D L Lt R Rt:List (Nat×Obj)}{d:List UInt8}{rn rd rb:Int}{N k:Nat}{gf of:List (List UInt8)}{w0:World}
structure Wkd (s:AS) (d:List UInt8) (r:Int×WS) (gf of:List (List UInt8)) (k:Nat):Prop where
 met:r.1=0→Met s d r.2.m
 len:r.1=0→r.2.m.length≤65536
 m32:r.1=0→∀p∈r.2.m,p.1.length=32
 go:r.1=0→Goes (partsM s r.2.m) [d] [] [] gf of k
section
variable{r:Int×WS}
end
section
variable (W:Wkd s d (runs s (rmOf rn rd rb) [rootS d] ws0) gf of k) (ok:s.Ok) (hfew:s.Few N) (hN:N<900000000) (hd:d.length=32) (hrm:(rmOf rn rd rb).Ok)
include W ok hfew hN hd hrm
end
end
def cp2 (r:Int×WS) (s t:AS) (of:List (List UInt8)):(Nat×Int×AS)×AS:=if s.k=t.k then (cpR r s t of,s.gotN r.2.g) else ((0,3,t),s)
section
variable{A B X:List (Nat×Obj)}{w w' w0:World}{S:List Nat}
end
section
variable{bp br tp tr:Nat}{s t:AS}{D L Lt R Rt:List (Nat×Obj)}{d:List UInt8}{rn rd rb:Int}{N k:Nat}{gf of:List (List UInt8)}{w0:World}
section
variable (W:Wkd s d (runs s (rmOf rn rd rb) [rootS d] ws0) gf of k) (ok:s.Ok) (okt:t.Ok) (hfew:s.Few N) (hft:t.Few N) (hN:N<900000000) (hd:d.length=32) (hrm:(rmOf rn rd rb).Ok)
include W ok okt hfew hft hN hd hrm
end
end
end Go.Gx
namespace Go.Gx
open Go.Proofs List
def addAll:List (List (List UInt8))→List UInt8→Int→List UInt8×Int
 | [],c,ft=>(c,ft)
 | ps::l,c,ft=>addAll l (addC c ft ps) (addF c ft ps)
def packB (k:Nat) (l:List (List UInt8)):List UInt8:=formB 5++formB k++formB l.length++l.flatMap fun x=>formB x.length++x
end Go.Gx
namespace Go.Gx
open Go.Proofs List
attribute [local irreducible] shaL cutD frontL
def packR (s:AS) (r:Int×WS) (of:List (List UInt8)):List UInt8×Int:=if r.1≠0 then ([],r.1) else if (packB s.k (of.map fun d=>(s.get d).1)).length≤4194304 then (packB s.k (of.map fun d=>(s.get d).1),0) else ([],2)
def pcs (s:AS) (n:Nat) (l:List (List UInt8)):List (List (List UInt8)):=[[formB 5],[formB s.k],[formB n]]++l.map fun d=>[formB (s.get d).1.length,(s.get d).1]
section
variable{bp:Nat}{s:AS}{D L:List (Nat×Obj)}{d:List UInt8}{w0:World}{rn rd rb:Int}{N k:Nat}{gf of:List (List UInt8)}
end
end Go.Gx
namespace Go.Gx
open Go.Proofs List
def pkI (k n:Nat) (B:List (Value×List UInt8)):List Wit:=[⟨1,5,.slice none 0 0,[]⟩,⟨1,k,.slice none 0 0,[]⟩,⟨1,n,.slice none 0 0,[]⟩]++B.map fun t=>⟨4,0,t.1,t.2⟩
def packE (b:List UInt8):List UInt8×Int:=if b.length≤4194304 then (b,0) else ([],2)
end Go.Gx
namespace Go.Gx
open Go.Proofs List
attribute [local irreducible] shaL cutD frontL
section
variable{s:AS}{rm:Rm}{g:Nat}
end
def sweepW (s:AS) (rm:Rm):List (List UInt8)→Nat→List (List UInt8)→Int×Nat×List (List UInt8)
 | [],g,m=>(0,g,m)
 | d::l,g,m=>if (runs s rm [rootS d] ws0).1≠0 then ((runs s rm [rootS d] ws0).1,g+(runs s rm [rootS d] ws0).2.g,m) else sweepW s rm l (g+(runs s rm [rootS d] ws0).2.g) (m++ordM (runs s rm [rootS d] ws0).2.m)
def goneL (m l:List (List UInt8)):List (List UInt8):=l.filter fun d=>decide (d∉m)
def evAll (s:AS) (l:List (List UInt8)):AS:=l.foldl AS.evict s
def sweepR (s:AS) (rm:Rm) (roots:List (List UInt8)):Nat×Int×AS:=
 if 65536<roots.length then (0,2,s)
 else if (sweepW s rm roots 0 []).1≠0 then (0,(sweepW s rm roots 0 []).1,s.gotN (sweepW s rm roots 0 []).2.1)
 else ((goneL (sweepW s rm roots 0 []).2.2 (s.X.map (·.d))).length,0,evAll (s.gotN (sweepW s rm roots 0 []).2.1) (goneL (sweepW s rm roots 0 []).2.2 (s.X.map (·.d))))
theorem findX_del{d e:List UInt8} (h:d≠e):∀X:List Blb,findX d (delX e X)=findX d X
 | []=>rfl
 | b::X=>by
  have ih:=findX_del h X
  by_cases hb:b.d=e
  ·have h1:delX e (b::X)=delX e X:=by simp[delX,hb]
   have h2:findX d (b::X)=findX d X:=by
    rw[findX,List.find?_cons]
    have:decide (b.d=d)=false:=by rw[hb];exact decide_eq_false fun h'=>h h'.symm
    rw[this]
    rfl
   rw[h1,h2,ih]
  ·have h1:delX e (b::X)=b::delX e X:=by simp[delX,hb]
   rw[h1,findX,findX,List.find?_cons,List.find?_cons]
   rw[findX,findX] at ih
   rw[ih]
end Go.Gx
namespace Go.Gx
open Go.Proofs Go.RowKit List
attribute [local irreducible] shaL cutD frontL
def nums (l:List Int):List Value:=l.map fun z=>.int .i64 z
structure Nums (w:World) (v:Value) (l:List Int):Prop where
 sl:Sl w 1 v l.length (nums l)
 rng:∀z∈l,-9223372036854775808≤z∧z≤9223372036854775807
 len:l.length≤9223372036854775807
section
variable{α:Type}{a b c e f:α}{A B C D:List α}
end
section
variable{wd rn rd rb:Int}{x:Stup}{v:Value}{l:List Int}
end
end Go.Gx
namespace Go.Gx
open Go.Proofs List
attribute [local irreducible] shaL cutD frontL decL decE
def slsh (p:List UInt8):Nat:=p.count 47
structure Pth (x:Std):Prop where
 z:x.dep=0→x.p=[]
 s:x.dep≠0→x.p≠[]∧slsh x.p+1=x.dep
 l:x.p.length≤65*x.dep
structure PLe (t u:WS):Prop where
 n:t.n≤u.n
 b:t.b≤u.b
 l:∀i∈t.l,i∈u.l
section
variable{s:AS}{rm rm':Rm}
end
def deepL (l:List WI):Nat:=l.foldl (fun m i=>max m (slsh i.p+1)) 0
def rmG:Rm:=rmOf 65536 32 67108864
theorem rmG_ok:rmG.Ok:=⟨by decide,by decide,by decide⟩
end Go.Gx
namespace Go.Gx
open Go.Proofs List
attribute [local irreducible] shaL cutD frontL
section
variable{P:Program}{f:Slots}{w:World}{d:Option Tmp}{ty:TypeId}{pos:String}{af:Array Edge}{x y:Operand}{ats:Array TypeId}{k:IntKind}{a b c:Int}
end
def bndV (r:Int×WS):Value:=if r.1=0 then .tuple #[.agg #[.int .i64 (r.2.n:Nat),.int .i64 (deepL r.2.l:Nat),.int .i64 (r.2.b:Nat)],.bool true] else .tuple #[.agg #[.int .i64 0,.int .i64 0,.int .i64 0],.bool false]
section
variable{bw bp br N:Nat}{s:AS}{D R:List (Nat×Obj)}{d:List UInt8}{vR:Value}{w0:World}
end
end Go.Gx
namespace Go.Gx
open Go.Proofs Go.RowKit List
attribute [local irreducible] shaL cutD frontL
theorem packR_gotN{s:AS}{g:Nat}{r:Int×WS}{of:List (List UInt8)}:packR (s.gotN g) r of=packR s r of:=rfl
theorem partsM_gotN{s:AS}{g:Nat}{m:List (List UInt8×Bool)}:partsM (s.gotN g) m=partsM s m:=rfl
def rN (n:Int) (i:Nat):Int:=if i=1 then n - 1 else n
def rD (n:Int) (i:Nat):Int:=if i=2 then n - 1 else n
def rB (n:Int) (i:Nat):Int:=if i=3 then n - 1 else n
section
variable{α:Type}{a b c e f g:α}{A B C D:List α}
end
section
variable{wd z:Int}{x:Stup}
end
end Go.Gx
namespace Go.Gx
open Go.Proofs List
attribute [local irreducible] shaL cutD frontL
structure LdK (b3 b8 b9 b10 b11 b12 b13 bp:Nat) (rm:Rm) (D:List (Nat×Obj)):Prop where
 m3:(b3,blk 39 [.pointer (some ⟨bp,0,none⟩)])∈D
 m9:(b9,blk 3 [.int .i64 rm.d])∈D
 m12:(b12,blk 150 [.func (.func 75) #[] #[.pointer (some ⟨b9,0,none⟩),.pointer (some ⟨b10,0,none⟩),.pointer (some ⟨b3,0,none⟩)]])∈D
 m13:(b13,blk 151 [.func (.func 77) #[] #[.pointer (some ⟨b12,0,none⟩),.pointer (some ⟨b8,0,none⟩),.pointer (some ⟨b13,0,none⟩),.pointer (some ⟨b11,0,none⟩)]])∈D
def LdW (b8 b10 b11:Nat) (rm:Rm) (t:WS) (D W:List (Nat×Obj)):Prop:=
 ∃vL LL T,W=(b8,blk 65 [vL])::(b10,blk 3 [.int .i64 (rm.n - t.n)])::(b11,blk 3 [.int .i64 (rm.b - t.b)])::LL∧OwnSl 155 3 vL t.l.length (rowsW T) LL∧T.map (·.1)=t.l∧∀u∈T,Held D u.2 u.1.x
section
variable{b3 b8 b9 b10 b11 b12 b13 bp N:Nat}{rm:Rm}{s:AS}{t:WS}{x:Std}{D D' W L:List (Nat×Obj)}{w0:World}
end
section
variable{S:List Nat}{q:Nat×Obj}{P A X:List (Nat×Obj)}{w w':World}
end
def LdPost (c8 c10 c11 bp:Nat) (rm:Rm) (s:AS) (r:Int×WS) (D W L:List (Nat×Obj)) (w0:World) (e:Ending) (w':World):Prop:=
 ∃W' L' D',e=.returned (.int .i64 r.1)∧(r.1=0→LdW c8 c10 c11 rm r.2 (D'++D) W')∧PRep bp (s.gotN r.2.g) (D'++D) L'∧Step ((W++L).map (·.1)) (W'++(L'++D')) w0 w'
section
variable{c3 c8 c9 c10 c11 c12 c13 bp N:Nat}{rm:Rm}{s:AS}
end
end Go.Gx
namespace Go.Gx
open Go.Proofs List
attribute [local irreducible] shaL cutD frontL decL decE
abbrev MLe (t u:WS):Prop:=∀p∈t.m,p∈u.m
section
variable {s s':AS}{rm:Rm}
end
end Go.Gx
namespace Go.Gx
open Go.Proofs Go.RowKit List
attribute [local irreducible] shaL cutD frontL
section
variable{α:Type}{a b c e:α}{A B C D Y Z M:List α}
end
def HeldR (D:List (Nat×Obj)) (v:Value) (T:List (WI×Value)):Prop:=(∃Lt,OwnSl 155 3 v T.length (rowsW T) Lt∧∀p∈Lt,p∈D)∧∀u∈T,Held D u.2 u.1.x
def Trees (s:AS) (D:List (Nat×Obj)) (ds:List (List UInt8)) (B:List (Value×List (WI×Value))):Prop:=B.length=ds.length∧∀(j:Nat) (t:Value×List (WI×Value)) (d:List UInt8),B[j]?=some t→ds[j]?=some d→t.2.map (·.1)=(runs s rmG [rootS d] ws0).2.l∧HeldR D t.1 t.2
section
variable{wd:Int}{x:Stup}{v:Value}{l:List Int}
end
end Go.Gx
namespace Go.Gx
open Go.Proofs List
def blbsP (bs:List UInt8):Nat→Nat→Except Int (List (List UInt8)×Nat)
 | 0,p=>.ok ([],p)
 | n+1,p=>
  match bytesP bs p with
  | .error e=>.error e
  | .ok (x,q)=>if 1048576<x.length then .error 2 else
   match blbsP bs n q with
   | .error e=>.error e
   | .ok (l,r)=>.ok (x::l,r)
def pkP (k:Nat) (bs:List UInt8):Except Int (List (List UInt8)×Nat):=
 match numP bs 0 with
 | .error e=>.error e
 | .ok (t,p)=>if t=5 then
   match numP bs p with
   | .error e=>.error e
   | .ok (u,p2)=>if u=k then
     match numP bs p2 with
     | .error e=>.error e
     | .ok (n,q)=>if n=0∨65536<n then .error 81 else blbsP bs n q
    else .error 3
  else .error 52
def preB (l:List (List UInt8)):Except Int (List (List UInt8)×Nat)→Except Int (List (List UInt8)×Nat)
 | .error e=>.error e
 | .ok (m,q)=>.ok (l++m,q)
theorem preB_nil (r:Except Int (List (List UInt8)×Nat)):preB [] r=r:=by
 rcases r with e | ⟨m,q⟩ <;> rfl
theorem blbsP_step{bs:List UInt8}{n p q:Nat}{x:List UInt8} (l:List (List UInt8)) (h:bytesP bs p=.ok (x,q)) (hx:¬1048576<x.length):preB l (blbsP bs (n+1) p)=preB (l++[x]) (blbsP bs n q):=by
 conv=>lhs;unfold blbsP
 rw[h]
 simp only
 rw[if_neg hx]
 rcases blbsP bs n q with e | ⟨m,r⟩
 ·rfl
 ·simp[preB]
theorem blbsP_long{bs:List UInt8}{n p q:Nat}{x:List UInt8} (l:List (List UInt8)) (h:bytesP bs p=.ok (x,q)) (hx:1048576<x.length):preB l (blbsP bs (n+1) p)=.error 2:=by
 conv=>lhs;unfold blbsP
 rw[h]
 simp only
 rw[if_pos hx]
 rfl
theorem blbsP_stop{bs:List UInt8}{n p:Nat}{e:Int} (l:List (List UInt8)) (h:bytesP bs p=.error e):preB l (blbsP bs (n+1) p)=.error e:=by
 conv=>lhs;unfold blbsP
 rw[h]
 rfl
theorem blbsP_err{bs:List UInt8}:∀{n p:Nat}{e:Int},blbsP bs n p=.error e→e≠0
 | 0,p,e,h=>by cases h
 | n+1,p,e,h=>by
  unfold blbsP at h
  split at h
  ·rename_i h1;injection h with h;subst h;rcases bytesP_err h1 with h | h <;> omega
  ·split at h
   ·injection h with h;omega
   ·split at h
    ·rename_i h1;injection h with h;subst h;exact blbsP_err h1
    ·cases h
theorem pkP_err{k:Nat}{bs:List UInt8}{e:Int} (h:pkP k bs=.error e):e≠0:=by
 unfold pkP at h
 split at h
 ·rename_i h1;injection h with h;subst h;rcases numP_err h1 with h | h <;> omega
 ·split at h
  ·split at h
   ·rename_i h1;injection h with h;subst h;rcases numP_err h1 with h | h <;> omega
   ·split at h
    ·split at h
     ·rename_i h1;injection h with h;subst h;rcases numP_err h1 with h | h <;> omega
     ·split at h
      ·injection h with h;omega
      ·exact blbsP_err h
    ·injection h with h;omega
  ·injection h with h;omega
theorem blbsP_sum{bs:List UInt8}:∀{n p q:Nat}{l:List (List UInt8)},blbsP bs n p=.ok (l,q)→p≤bs.length→l.length=n∧p+(l.map List.length).sum≤q∧q≤bs.length∧∀x∈l,x.length≤1048576
 | 0,p,q,l,h,hp=>by
  unfold blbsP at h
  injection h with h;injection h with h1 h2;subst h1;subst h2
  exact⟨rfl,Nat.le_refl _,hp,fun x hx=>by cases hx⟩
 | n+1,p,q,l,h,hp=>by
  unfold blbsP at h
  split at h
  ·cases h
  ·rename_i x q1 h1
   have hb:=bytesP_ok h1
   have hx:p+x.length≤q1:=by
    unfold bytesP at h1
    split at h1
    ·cases h1
    ·rename_i u q0 h2
     have hn:=numP_ok h2
     split at h1
     ·cases h1
     ·injection h1 with h1;injection h1 with h3 h4
      subst h3;subst h4
      simp only[length_take,length_drop]
      omega
   split at h
   ·cases h
   ·rename_i hx2
    split at h
    ·cases h
    ·rename_i l2 r h2
     injection h with h;injection h with h3 h4
     subst h3;subst h4
     have ob:=blbsP_sum h2 hb.1
     obtain⟨e1,e2,e3,e4⟩:=ob
     refine⟨by rw[length_cons,e1],?_,e3,fun y hy=>?_⟩
     ·rw[map_cons,sum_cons];omega
     ·rcases mem_cons.1 hy with rfl | hy
      ·omega
      ·exact e4 y hy
theorem pkP_ok{k:Nat}{bs:List UInt8}{l:List (List UInt8)}{q:Nat} (h:pkP k bs=.ok (l,q)):l≠[]∧l.length≤65536∧(l.map List.length).sum≤bs.length∧q≤bs.length∧∀x∈l,x.length≤1048576:=by
 unfold pkP at h
 split at h
 ·cases h
 ·split at h
  ·split at h
   ·cases h
   ·split at h
    ·split at h
     ·cases h
     ·rename_i n q0 h3
      split at h
      ·cases h
      ·rename_i hn
       have ob:=blbsP_sum h (numP_ok h3).1
       obtain⟨e1,e2,e3,e4⟩:=ob
       refine⟨fun h0=>?_,by omega,by omega,e3,e4⟩
       subst h0
       have:n=0:=e1.symm
       omega
    ·cases h
  ·cases h
def UpR (b bl bk k:Nat) (bv:Value) (w0:World):Except Int (List (List UInt8)×Nat)→Ending→World→Prop
 | .ok (l,q),e,w'=>∃v B Lv LD,e=.returned (.tuple #[])∧B.map (·.2)=l∧OwnSl 76 1 v B.length (cellsB B) Lv∧BOk LD B∧Step [b,bl,bk] (RdB b bv q::(bl,blk 24 [v])::(bk,blk 3 [.int .i64 (k:Nat)])::(Lv++LD)) w0 w'
 | .error er,e,w'=>∃p v Lv,e=.panicked (pch b)∧v.oneCell'=true∧Step [b,bl,bk] (RF b bv p er::(bl,blk 24 [v])::(bk,blk 3 [.int .i64 (k:Nat)])::Lv) w0 w'
theorem UpR.err{b bl bk k:Nat}{bv:Value}{w0 w w':World}{er:Int}{r:Except Int (List (List UInt8)×Nat)}{p:Nat}{v:Value}{Lv:List (Nat×Obj)}{e:Ending} (hr:r=.error er) (hv:v.oneCell'=true) (hs:Step [b,bl,bk] (RdB b bv p::(bl,blk 24 [v])::(bk,blk 3 [.int .i64 (k:Nat)])::Lv) w0 w) (h:Thrown b bv er w e w'):UpR b bl bk k bv w0 r e w':=by
 subst hr
 obtain⟨p',he,h⟩:=h
 exact⟨p',v,Lv,he,hv,Step.call (L1:=[RdB b bv p]) hs h⟩
theorem UpR.ok{b bl bk k:Nat}{bv:Value}{w0 w':World}{r:Except Int (List (List UInt8)×Nat)}{l:List (List UInt8)}{q:Nat}{v:Value}{B:BL}{Lv LD:List (Nat×Obj)} (hr:r=.ok (l,q)) (hB:B.map (·.2)=l) (hv:OwnSl 76 1 v B.length (cellsB B) Lv) (hD:BOk LD B) (hs:Step [b,bl,bk] (RdB b bv q::(bl,blk 24 [v])::(bk,blk 3 [.int .i64 (k:Nat)])::(Lv++LD)) w0 w'):UpR b bl bk k bv w0 r (.returned (.tuple #[])) w':=by
 subst hr
 exact⟨v,B,Lv,LD,rfl,hB,hv,hD,hs⟩
theorem Step.u1{S:List Nat}{p x y:Nat×Obj}{Lx Lv LD:List (Nat×Obj)}{w w':World} (h:Step S ((p::Lx)++(x::y::(Lv++LD))) w w'):Step S (p::x::y::(Lv++(LD++Lx))) w w':=h.perm (by classical exact perm_iff_count.2 fun x=>by simp only[count_append,count_cons];omega)
theorem Step.u2{S:List Nat}{n p x y:Nat×Obj}{Lv X:List (Nat×Obj)}{w w':World} (h:Step S (n::p::x::y::(Lv++X)) w w'):Step S (Lv++(n::p::x::y::X)) w w':=h.perm (by classical exact perm_iff_count.2 fun x=>by simp only[count_append,count_cons];omega)
theorem Step.u3{S:List Nat}{n p x y:Nat×Obj}{Lv X:List (Nat×Obj)}{w w':World} (h:Step S (Lv++(n::p::x::y::X)) w w'):Step S (x::p::y::(Lv++X)) w w':=Step.tail (p:=n) (h.perm (by classical exact perm_iff_count.2 fun x=>by simp only[count_append,count_cons];omega))
set_option maxHeartbeats 2000000 in
theorem blobs1_at{b bl bk k:Nat}{bs:List UInt8}{bv:Value}{r:Except Int (List (List UInt8)×Nat)} (hr:pkP k bs=r) (w0:World) (hk:k≤32) (hsl:Sl w0 1 bv bs.length (u8s bs)) (hout:Outside bv [b,bl,bk]) (hroom:Room bv) (hlen:bs.length≤4194304)
  (hO:Step [b,bl,bk] (RdB b bv 0::(bl,blk 24 [.slice none 0 0])::(bk,blk 3 [.int .i64 (k:Nat)])::[]) w0 w0):CP 139 #[.pointer (some ⟨b,0,none⟩),.pointer (some ⟨bk,0,none⟩),.pointer (some ⟨bl,0,none⟩)] w0 (UpR b bl bk k bv w0 r):=by
 have hs:=hO
 have hout1:Outside bv [b]:=by
  unfold Outside at hout⊢
  split
  ·intro h;exact hout (by simp at h⊢;exact .inl h)
  ·trivial
 have rd:∀{w:World}{p:Nat}{L:List (Nat×Obj)},Step [b,bl,bk] (RdB b bv p::L) w0 w→RdOk w b bs bv p:=fun h=>⟨Step.own (L1:=[_]) h,hsl.step h hout,hout1,hroom,hlen⟩
 have hst:∀{w w':World}{p:Nat}{L L2:List (Nat×Obj)},Step [b,bl,bk] (RdB b bv p::L) w0 w→Step [b] L2 w w'→Step [b,bl,bk] (L2++L) w0 w':=fun h h2=>Step.call (L1:=[RdB b bv _]) h h2
 unfold pkP at hr
 cases h1:numP bs 0 with
 | error er=>
  rw[h1] at hr
  refine calls (n:=42) Tryz.func139 rfl rfl rfl ?_
  refine cq<|sr<|wm<|WL.enterX (run_call en126 rfl rfl) (num_at h1 _ (rd hs) (by omega)) ?_
  rintro e w ⟨p',rfl,hq⟩
  refine⟨_,rfl,?_⟩
  exact fin_panic (.err hr.symm rfl hs ⟨p',rfl,hq⟩)
 | ok tp=>
  obtain⟨t,p1⟩:=tp
  rw[h1] at hr
  have hb1:=numP_ok h1
  simp only at hr
  by_cases ht:t=5
  ·rw[if_pos ht] at hr
   subst ht
   cases h2:numP bs p1 with
   | error er=>
    rw[h2] at hr
    refine calls (n:=42) Tryz.func139 rfl rfl rfl ?_
    refine cq<|sr<|wm<|wE rfl (run_call en126 rfl rfl) (num_at h1 _ (rd hs) (by omega)) ?_
    rintro e w ⟨rfl,hq⟩
    refine⟨_,rfl,?_⟩
    replace hs:=hst hs hq
    refine wV (run_bF (run_neq rfl rfl) (by show ¬((5:Nat):Int)≠5;decide))<|wZ ?_
    have hc2:∀{w:World}{p:Nat},Step [b,bl,bk] (RdB b bv p::(bl,blk 24 [.slice none 0 0])::(bk,blk 3 [.int .i64 (k:Nat)])::[]) w0 w→w.heap[bk]?=some (blk 3 [.int .i64 (k:Nat)]):=fun h=>h.has (bk,blk 3 [.int .i64 (k:Nat)]) (by simp)
    refine cF rfl<|ck<|cq<|cq<|CW.any (A:=fun w=>w.heap[bk]?=some (blk 3 [.int .i64 (k:Nat)])) (C:=fun w=>w.heap[bk]?=some (blk 3 [.int .i64 (k:Nat)])) 1000000 4 mixedP rfl ?_
    replace hs:=hs.drew
    refine aM 0 rfl<|aV 2 rfl (fun w hs=>run_load1 ty3 rfl ((At.of_blk hs).cell (j:=0) rfl))<|AL.one 1 (by kernel_rfl) rfl (hc2 hs) (hc2 hs) ?_
    refine WL.enterX (run_call en126 rfl rfl) (num_at h2 _ (rd hs) hb1.1) ?_
    rintro e w ⟨p',rfl,hq2⟩
    refine⟨_,rfl,?_⟩
    refine⟨rfl,fun _=>?_⟩
    exact fin_panic (.err hr.symm rfl hs ⟨p',rfl,hq2⟩)
   | ok up=>
    obtain⟨u,p2⟩:=up
    rw[h2] at hr
    have hb2:=numP_ok h2
    simp only at hr
    by_cases hu:u=k
    ·rw[if_pos hu] at hr
     subst hu
     have hc2:∀{w:World}{p:Nat},Step [b,bl,bk] (RdB b bv p::(bl,blk 24 [.slice none 0 0])::(bk,blk 3 [.int .i64 (u:Nat)])::[]) w0 w→w.heap[bk]?=some (blk 3 [.int .i64 (u:Nat)]):=fun h=>h.has (bk,blk 3 [.int .i64 (u:Nat)]) (by simp)
     refine calls (n:=42) Tryz.func139 rfl rfl rfl ?_
     refine cq<|sr<|wm<|wE rfl (run_call en126 rfl rfl) (num_at h1 _ (rd hs) (by omega)) ?_
     rintro e w ⟨rfl,hq⟩
     refine⟨_,rfl,?_⟩
     replace hs:=hst hs hq
     refine wV (run_bF (run_neq rfl rfl) (by show ¬((5:Nat):Int)≠5;decide))<|wZ<|CW.cond rfl (fun h=>?_) (fun h=>?_)
     ·cases h
     refine ck<|CW.seqM (fun f w=>Step [b,bl,bk] (RdB b bv p2::(bl,blk 24 [.slice none 0 0])::(bk,blk 3 [.int .i64 (u:Nat)])::[]) w0 w∧Holds f [(0,.pointer (some ⟨b,0,none⟩)),(2,.pointer (some ⟨bl,0,none⟩))]) ?_ ?_
     ·skip
      refine cq<|CW.any (A:=fun w=>w.heap[bk]?=some (blk 3 [.int .i64 (u:Nat)])) (C:=fun w=>w.heap[bk]?=some (blk 3 [.int .i64 (u:Nat)])) 1000000 4 mixedP rfl ?_
      replace hs:=hs.drew
      refine aM 0 rfl<|aV 2 rfl (fun w hs=>run_load1 ty3 rfl ((At.of_blk hs).cell (j:=0) rfl))<|AL.one 1 (by kernel_rfl) rfl (hc2 hs) (hc2 hs) ?_
      refine wE rfl (run_call en126 rfl rfl) (num_at h2 _ (rd hs) hb1.1) ?_
      rintro e w ⟨rfl,hq2⟩
      refine⟨_,rfl,?_⟩
      replace hs:=hst hs hq2
      refine wZ<|⟨rfl,?_⟩
      refine aV 3 rfl (fun w hs=>run_bF (run_neq rfl rfl) (by omega))<|AL.end (by kernel_rfl) (hc2 hs) (hc2 hs) ?_
      refine cF rfl<|ck ?_
      exact⟨rfl,hs,rfl,rfl,trivial⟩
     clear hs
     rintro f w ⟨hs,hf⟩
     have ob:=hf.chain
     obtain⟨g,rfl⟩:=ob
     cases h3:numP bs p2 with
     | error er=>
      rw[h3] at hr
      refine sr<|wm<|WL.enterX (run_call en126 rfl rfl) (num_at h3 _ (rd hs) hb2.1) ?_
      rintro e w ⟨p',rfl,hq3⟩
      refine⟨_,rfl,?_⟩
      exact fin_panic (.err hr.symm rfl hs ⟨p',rfl,hq3⟩)
     | ok nq=>
      obtain⟨n,q0⟩:=nq
      rw[h3] at hr
      have hb3:=numP_ok h3
      simp only at hr
      by_cases hn:n=0∨65536<n
      ·rw[if_pos hn] at hr
       by_cases hn0:n=0
       ·subst hn0
        refine sr<|wm<|wE rfl (run_call en126 rfl rfl) (num_at h3 _ (rd hs) hb2.1) ?_
        rintro e w ⟨rfl,hq3⟩
        refine⟨_,rfl,?_⟩
        replace hs:=hst hs hq3
        refine wA<|wZ<|cq<|sr<|wm<|wV (run_bT (run_eql rfl rfl) (by rfl))<|wm<|wz<|wz<|wV (run_pickT rfl)<|wZ<|cT rfl<|cr<|wm ?_
        refine WL.enterX (run_call en127 rfl rfl) (fail_throw (bs:=bs) (er:=81) _ (rd hs) (by decide)) ?_
        rintro e w ⟨p',rfl,hq4⟩
        refine⟨_,rfl,?_⟩
        exact fin_panic (.err hr.symm rfl hs ⟨p',rfl,hq4⟩)
       ·refine sr<|wm<|wE rfl (run_call en126 rfl rfl) (num_at h3 _ (rd hs) hb2.1) ?_
        rintro e w ⟨rfl,hq3⟩
        refine⟨_,rfl,?_⟩
        replace hs:=hst hs hq3
        refine wA<|wZ<|cq<|sr<|wm<|wV (run_bF (run_eql rfl rfl) (by omega))<|wm<|wy<|wm<|wy<|wV (run_bT (run_gtr rfl rfl) (by omega))<|wV (run_pickF rfl)<|wZ<|cT rfl<|cr<|wm ?_
        refine WL.enterX (run_call en127 rfl rfl) (fail_throw (bs:=bs) (er:=81) _ (rd hs) (by decide)) ?_
        rintro e w ⟨p',rfl,hq4⟩
        refine⟨_,rfl,?_⟩
        exact fin_panic (.err hr.symm rfl hs ⟨p',rfl,hq4⟩)
      ·rw[if_neg hn] at hr
       refine sr<|wm<|wE rfl (run_call en126 rfl rfl) (num_at h3 _ (rd hs) hb2.1) ?_
       rintro e w ⟨rfl,hq3⟩
       refine⟨_,rfl,?_⟩
       replace hs:=hst hs hq3
       refine wA<|wZ<|cq<|sr<|wm<|wV (run_bF (run_eql rfl rfl) (by omega))<|wm<|wy<|wm<|wy<|wV (run_bF (run_gtr rfl rfl) (by omega))<|wV (run_pickF rfl)<|wZ ?_
       refine cF rfl<|ck<|sr<|wm<|wm<|wZ<|cB<|CW.loop (fun m f w'=>∃i B q v Lv LD,i≤n∧m=n - i∧q≤bs.length∧B.length=i∧r=preB (B.map (·.2)) (blbsP bs (n - i) q)∧OwnSl 76 1 v B.length (cellsB B) Lv∧BOk LD B∧Step [b,bl,bk] (RdB b bv q::(bl,blk 24 [v])::(bk,blk 3 [.int .i64 (u:Nat)])::(Lv++LD)) w0 w'∧Holds f [(0,.pointer (some ⟨b,0,none⟩)),(2,.pointer (some ⟨bl,0,none⟩)),(27,.int .i64 n),(28,.int .i64 i)]) (m:=n) ?_ ?_
       ·exact⟨0,[],q0,_,[],[],by omega,by omega,hb3.1,rfl,by rw[map_nil,preB_nil];exact hr.symm,.nil _ _,(fun t ht=>by cases ht),hs,rfl,rfl,rfl,rfl,trivial⟩
       ·clear hs hr
        rintro m f w ⟨i,B,q,v,Lv,LD,hi,rfl,hq0,hll,hr,hv,hok,hs,hf⟩
        have ob:=hf.chain
        obtain⟨g,rfl⟩:=ob
        refine sr<|wV (run_lss rfl rfl)<|wZ<|cq<|CW.condP rfl (fun h=>?_) (fun h=>?_)
        ·have hlt:i<n:=by omega
         have ob:∃j,n - i=j+1:=⟨n - i - 1,by omega⟩
         obtain⟨j,hj⟩:=ob
         rw[hj] at hr
         cases h4:bytesP bs q with
         | error er=>
          rw[blbsP_stop _ h4] at hr
          refine ck<|cq<|cB<|sr<|wm<|WL.enterX (run_call en140 rfl rfl) (bytes_at h4 _ (rd hs) hq0) ?_
          rintro e w ⟨p',rfl,hq4⟩
          refine⟨_,rfl,?_⟩
          exact fin_panic (.err hr hv.one hs ⟨p',rfl,hq4⟩)
         | ok xq=>
          obtain⟨x,q'⟩:=xq
          have hb4:=bytesP_ok h4
          by_cases hx:1048576<x.length
          ·rw[blbsP_long _ h4 hx] at hr
           refine ck<|cq<|cB<|sr<|wm<|wE rfl (run_call en140 rfl rfl) (bytes_at h4 _ (rd hs) hq0) ?_
           rintro e w ⟨vx,Lx,rfl,hvx,hq4⟩
           refine⟨_,rfl,?_⟩
           replace hs:=Step.u1 (hst hs hq4)
           have ob:=hvx.form
           obtain⟨xa,xc,rfl⟩:=ob
           refine wA<|wZ<|cq<|sr<|wm<|wV (run_lenSl u76 rfl)<|wV (run_bT (run_gtr rfl rfl) (by omega))<|wZ<|cT rfl<|cr<|wm<|WL.enterX (run_call en127 rfl rfl) (fail_throw (bs:=bs) (er:=2) _ (rd hs) (by decide)) ?_
           rintro e w ⟨p',rfl,hq5⟩
           refine⟨_,rfl,?_⟩
           exact fin_panic (.err hr hv.one hs ⟨p',rfl,hq5⟩)
          ·rw[blbsP_step _ h4 hx] at hr
           refine ck<|cq<|cB<|sr<|wm<|wE rfl (run_call en140 rfl rfl) (bytes_at h4 _ (rd hs) hq0) ?_
           rintro e w ⟨vx,Lx,rfl,hvx,hq4⟩
           refine⟨_,rfl,?_⟩
           replace hs:=Step.u1 (hst hs hq4)
           have ob:=hvx.form
           obtain⟨xa,xc,rfl⟩:=ob
           refine wA<|wZ ?_
           have hok2:BOk (LD++Lx) (B++[(.slice xa x.length xc,x)]):=(hok.mono fun p hp=>mem_append_left _ hp).app fun t ht=>by
            obtain rfl:=mem_singleton.1 ht
            exact⟨⟨Lx,hvx,fun p hp=>mem_append_right _ hp⟩,by show x.length≤_;omega⟩
           refine cq<|sr<|wm<|wV (run_lenSl u76 rfl)<|wV (run_bF (run_gtr rfl rfl) (by omega))<|wZ<|cF rfl<|ck<|cr<|wl ty24 rfl (hs.c1 rfl)<|wm<|WL.buildSlice (cs:=[.slice xa x.length xc]) (vs:=[(0,.slice xa x.length xc)]) u24 ty76 rfl (by decide) rfl (filled_s _ _ rfl) rfl hs (fun b39 w hs=>?_)
           have hsl39:Sl w 1 (.slice (some ⟨b39,0,none⟩) 1 1) 1 [Value.slice xa x.length xc]:=.own1 hs rfl
           replace hs:=Step.u2 hs
           refine WL.append u24 u24 ty76 rfl (by decide) rfl rfl (hv) (hs) (hsl39) (Cells1.of_all rfl) (by omega) rfl (fun v40 Lv40 w hv40 hs=>?_)
           replace hs:=Step.u3 hs
           refine ws1 ty24 rfl rfl (hv40.one) (hs) (fun w hs=>?_)
           refine wZ ?_
           replace hs:=hs.swap
           refine cr<|wV (run_add (c:=((i+1:Nat):Int)) rfl rfl (by omega) (by omega))<|wm<|wZ<|(show _∧_ from⟨rfl,_,?_,i+1,B++[(.slice xa x.length xc,x)],q',_,_,LD++Lx,by omega,rfl,hb4.1,?_,?_,?_,hok2,hs,rfl,rfl,rfl,rfl,trivial⟩)
           ·omega
           ·simp[hll]
           ·rw[hr,map_append,show n - (i+1)=j by omega];rfl
           ·rw[length_append,cellsB_snoc]
            exact hv40
        ·obtain rfl:i=n:=by omega
         refine CW.exit<|fin_end0 rfl ?_
         have e:r=.ok (B.map (·.2),q):=by
          rw[hr,show i - i=0 by omega]
          simp[blbsP,preB]
         exact .ok e rfl hv hok hs
    ·rw[if_neg hu] at hr
     have hc2:∀{w:World}{p:Nat},Step [b,bl,bk] (RdB b bv p::(bl,blk 24 [.slice none 0 0])::(bk,blk 3 [.int .i64 (k:Nat)])::[]) w0 w→w.heap[bk]?=some (blk 3 [.int .i64 (k:Nat)]):=fun h=>h.has (bk,blk 3 [.int .i64 (k:Nat)]) (by simp)
     refine calls (n:=42) Tryz.func139 rfl rfl rfl ?_
     refine cq<|sr<|wm<|wE rfl (run_call en126 rfl rfl) (num_at h1 _ (rd hs) (by omega)) ?_
     rintro e w ⟨rfl,hq⟩
     refine⟨_,rfl,?_⟩
     replace hs:=hst hs hq
     refine wV (run_bF (run_neq rfl rfl) (by show ¬((5:Nat):Int)≠5;decide))<|wZ<|cF rfl<|ck<|cq<|cq<|CW.any (A:=fun w=>w.heap[bk]?=some (blk 3 [.int .i64 (k:Nat)])) (C:=fun w=>w.heap[bk]?=some (blk 3 [.int .i64 (k:Nat)])) 1000000 4 mixedP rfl ?_
     replace hs:=hs.drew
     refine aM 0 rfl<|aV 2 rfl (fun w hs=>run_load1 ty3 rfl ((At.of_blk hs).cell (j:=0) rfl))<|AL.one 1 (by kernel_rfl) rfl (hc2 hs) (hc2 hs) ?_
     refine wE rfl (run_call en126 rfl rfl) (num_at h2 _ (rd hs) hb1.1) ?_
     rintro e w ⟨rfl,hq2⟩
     refine⟨_,rfl,?_⟩
     replace hs:=hst hs hq2
     refine wZ<|⟨rfl,?_⟩
     refine aV 3 rfl (fun w hs=>run_bT (run_neq rfl rfl) (by omega))<|AL.end (by kernel_rfl) (hc2 hs) (hc2 hs) ?_
     refine cT rfl<|cr<|wm<|WL.enterX (run_call en127 rfl rfl) (fail_throw (bs:=bs) (er:=3) _ (rd hs) (by decide)) ?_
     rintro e w ⟨p',rfl,hq3⟩
     refine⟨_,rfl,?_⟩
     exact fin_panic (.err hr.symm rfl hs ⟨p',rfl,hq3⟩)
  ·rw[if_neg ht] at hr
   refine calls (n:=42) Tryz.func139 rfl rfl rfl ?_
   refine cq<|sr<|wm<|wE rfl (run_call en126 rfl rfl) (num_at h1 _ (rd hs) (by omega)) ?_
   rintro e w ⟨rfl,hq⟩
   refine⟨_,rfl,?_⟩
   replace hs:=hst hs hq
   refine wV (run_bT (run_neq rfl rfl) (by show(t:Int)≠5;omega))<|wZ<|cT rfl<|cr<|wm<|WL.enterX (run_call en127 rfl rfl) (fail_throw (bs:=bs) (er:=52) _ (rd hs) (by decide)) ?_
   rintro e w ⟨p',rfl,hq2⟩
   refine⟨_,rfl,?_⟩
   exact fin_panic (.err hr.symm rfl hs ⟨p',rfl,hq2⟩)
def upP (k:Nat) (bs:List UInt8):Int×List (List UInt8):=match pkP k bs with
 | .error e=>(e,[])
 | .ok (l,q)=>if q<bs.length then (13,[]) else (0,l)
theorem upP_ok{k:Nat}{bs:List UInt8} (h:(upP k bs).1=0):(upP k bs).2≠[]∧(upP k bs).2.length≤65536∧((upP k bs).2.map List.length).sum≤bs.length∧∀x∈(upP k bs).2,x.length≤1048576:=by
 cases h1:pkP k bs with
 | error e=>
  have e1:upP k bs=(e,[]):=by unfold upP;rw[h1]
  rw[e1] at h
  exact absurd h (pkP_err h1)
 | ok lq=>
  obtain⟨l,q⟩:=lq
  have e1:upP k bs=if q<bs.length then (13,[]) else (0,l):=by unfold upP;rw[h1]
  by_cases hq:q<bs.length
  ·rw[e1,if_pos hq] at h
   cases h
  ·rw[e1,if_neg hq]
   have h2:=pkP_ok h1
   exact⟨h2.1,h2.2.1,h2.2.2.1,h2.2.2.2.2⟩
def UrR (bl bk k:Nat) (bs:List UInt8) (w0:World) (e:Ending) (w':World):Prop:=∃u B Lv G,e=.returned (.int .i64 (upP k bs).1)∧Cell1 u∧((upP k bs).1=0→OwnSl 76 1 u B.length (cellsB B) Lv∧BOk G B∧B.map (·.2)=(upP k bs).2)∧Step [bl,bk] ((bl,blk 24 [u])::(bk,blk 3 [.int .i64 (k:Nat)])::(Lv++G)) w0 w'
theorem Step.u4{S:List Nat}{p a b c d:Nat×Obj}{X Y:List (Nat×Obj)}{w0 w:World} (h:Step S ((p::a::b::X)++(c::d::Y)) w0 w):Step S (p::c::d::a::b::(X++Y)) w0 w:=
 h.perm (by classical exact perm_iff_count.2 fun x=>by simp only[count_append,count_cons];omega)
theorem Step.u7{S:List Nat}{a b c d e:Nat×Obj}{X:List (Nat×Obj)}{w0 w:World} (h:Step S (b::a::c::d::e::X) w0 w):Step S (a::d::e::b::c::X) w0 w:=
 h.perm (by classical exact perm_iff_count.2 fun x=>by simp only[count_cons];omega)
set_option maxHeartbeats 2000000 in
theorem readB_at{bl bk k:Nat}{bs:List UInt8}{v:Value} (w0:World) (hk:k≤32) (hv:Sl w0 1 v bs.length (u8s bs)) (hout:u8s bs=[]∨Outside v [bl,bk]) (hlen:bs.length≤4194304) (hO:Step [bl,bk] [(bl,blk 24 [.slice none 0 0]),(bk,blk 3 [.int .i64 (k:Nat)])] w0 w0) :
  CP 124 #[v,.func (.func 139) #[] #[.pointer (some ⟨bk,0,none⟩),.pointer (some ⟨bl,0,none⟩)]] w0 (UrR bl bk k bs w0):=by
 have hs:=hO
 refine callsDef (n:=14) Tryz.func124 rfl rfl rfl ?_
 refine sr<|WL.alloc ty36 rfl hs (fun b4 w hs=>?_)
 refine wZ<|sr<|wm<|wE rfl (run_call en83 rfl rfl) (clone_spec (s:=bs) _ (hv.stepK hs hout) (by omega)) ?_
 rintro e w ⟨v',Lv',rfl,hv',hq⟩
 refine⟨_,rfl,?_⟩
 have ob:=hv'.form
 obtain⟨va,vc,rfl⟩:=ob
 replace hs:=(hs.call0 hq).append_comm
 refine wV (run_build rfl (bld_reader _ _ _ _))<|WL.box (cs:=[.slice va bs.length vc,.int .i64 0,.bool false,.int .i64 0]) rfl rfl rfl hs (fun b9 w hs=>?_)
 refine WL.alloc ty228 rfl hs (fun b5 w hs=>?_)
 refine ws1 ty228 rfl rfl (rfl) (hs) (fun w hs=>?_)
 refine wZ ?_
 replace hs:=Step.u7 (show Step [bl,bk] ((b5,blk 228 [.pointer (some ⟨b9,0,none⟩)])::(b9,blk 266 [.slice va bs.length vc,.int .i64 0,.bool false,.int .i64 0])::(b4,blk 36 [.int .i64 0])::(bl,blk 24 [.slice none 0 0])::(bk,blk 3 [.int .i64 (k:Nat)])::Lv') w0 w from hs)
 have hown:Step [b9,bl,bk] [RdB b9 (.slice va bs.length vc) 0,(bl,blk 24 [.slice none 0 0]),(bk,blk 3 [.int .i64 (k:Nat)])] w w:=Step.own (L1:=[_,_,_]) hs
 have hcomm:=Step.append_comm (L1:=[_,_,_,_,_]) hs
 have hsl:=hv'.sl hcomm
 have hvo:Outside (.slice va bs.length vc) [b9,bl,bk]:=hv'.outside fun p hp h=>hcomm.disj p hp (by simp at h⊢;rcases h with h | h | h <;> simp[h])
 refine sr<|wV (run_makeFuncC rfl)<|WL.defer (run_deferV (cap:=[.pointer (some ⟨b5,0,none⟩),.pointer (some ⟨b4,0,none⟩)]) rfl) ?_
 refine wZ ?_
 have hdec:=fun r hr=>blobs1_at (r:=r) hr w hk hsl hvo (hv'.room (by decide)) hlen hown
 cases hr:pkP k bs with
 | error er=>
  have hne:=pkP_err hr
  have he:upP k bs=(er,[]):=by unfold upP;rw[hr]
  refine sr<|wm<|wl ty228 rfl ((hs.tail.tail.tail.c0 rfl))<|WL.enterX (run_callV (cap:=[.pointer (some ⟨bk,0,none⟩),.pointer (some ⟨bl,0,none⟩)]) en139 rfl rfl) (hdec _ hr) ?_
  rintro e w ⟨p,u,Lu,rfl,hu1,hq2⟩
  refine⟨_,rfl,?_⟩
  replace hs:=Step.u4 (X:=Lu) (Step.call (L1:=[RdB b9 _ 0,(bl,_),(bk,_)]) hs hq2)
  refine finD_panic (cap:=[.pointer (some ⟨b5,0,none⟩),.pointer (some ⟨b4,0,none⟩)]) en159 ((rd1_panic hne _ (Step.own (L1:=[_,_,_]) hs)).mono fun e u' w' h=>?_)
  obtain⟨h1,h2,hq3⟩:=h
  refine⟨h1,h2,fun a ha=>?_⟩
  replace hs:=Step.call (L1:=[_,_,_]) hs hq3
  exact⟨_,res_cell1 ha rfl rfl (run_loadVar1 ty36 (hs.c2 rfl)),u,[],Lu,Lv',by rw[he],hu1,fun h=>absurd (by rw[he] at h;exact h) hne,Step.dropL (L1:=[_,_,_]) hs⟩
 | ok lq=>
  obtain⟨l,q⟩:=lq
  refine sr<|wm<|wl ty228 rfl ((hs.tail.tail.tail.c0 rfl))<|wE rfl (run_callV (cap:=[.pointer (some ⟨bk,0,none⟩),.pointer (some ⟨bl,0,none⟩)]) en139 rfl rfl) (hdec _ hr) ?_
  rintro e w ⟨u,B,Lu,LD,rfl,hB,hu,hD,hq2⟩
  refine⟨_,rfl,?_⟩
  refine wZ ?_
  replace hs:=Step.front [_,_] (Step.u4 (X:=Lu++LD) (Step.call (L1:=[RdB b9 _ 0,(bl,_),(bk,_)]) hs hq2))
  refine sr<|ws1 ty36 rfl rfl (rfl) (hs) (fun w hs=>?_)
  refine wZ ?_
  replace hs:=hs.rot3.rot3
  refine CW.ret ?_
  refine finD_ret (cap:=[.pointer (some ⟨b5,0,none⟩),.pointer (some ⟨b4,0,none⟩)]) en159 ((rd1_ret _ (Step.own (L1:=[_,_,_]) hs)).mono fun e u' w' h=>?_)
  obtain⟨h1,h2,hq3⟩:=h
  refine⟨h1,h2,fun a ha=>?_⟩
  replace hs:=Step.call (L1:=[_,_,_]) hs hq3
  refine⟨_,res_cell1 ha rfl rfl (run_loadVar1 ty36 (hs.c2 rfl)),u,B,Lu,LD++Lv',?_,hu.one,?_,by rw[←append_assoc];exact Step.dropL (L1:=[_,_,_]) hs⟩
  ·unfold upP
   rw[hr]
   by_cases hlt:q<bs.length <;> simp[hlt]
  ·intro h0
   refine⟨hu,hD.mono fun p hp=>mem_append_left _ hp,?_⟩
   unfold upP at h0⊢
   rw[hr] at h0⊢
   simp only at h0⊢
   split at h0
   ·cases h0
   ·rename_i hlt;rw[if_neg hlt];exact hB
theorem blobs_spec{k:Nat}{bs:List UInt8}{v:Value} (w0:World) (hk:k≤32) (hv:Sl w0 1 v bs.length (u8s bs)) (hlen:bs.length≤4194304) :
  CP 96 #[.int .i64 (k:Nat),v] w0 fun e w'=>∃u B Lv G,e=.returned (.tuple #[u,.int .i64 (upP k bs).1])∧((upP k bs).1=0→OwnSl 76 1 u B.length (cellsB B) Lv∧BOk G B∧B.map (·.2)=(upP k bs).2)∧Step [] (Lv++G) w0 w':=by
 have hs:Step [] [] w0 w0:=Step.refl w0
 have ob:=hv.form
 obtain⟨a,c,rfl⟩:=ob
 refine calls (n:=11) Tryz.func96 rfl rfl rfl ?_
 refine sr<|WL.box rfl (rfl) rfl hs (fun b2 w hs=>?_)
 refine WL.alloc ty24 rfl hs (fun b4 w hs=>?_)
 refine wA<|wZ<|sr<|wm<|wV (run_makeFuncC rfl)<|wE rfl (run_call en124 rfl rfl) (readB_at _ hk (hv.step0 hs.clear) (Outside.newer hv hs (fun k hk=>by simp at hk⊢;exact hk)) hlen (Step.own (L1:=[_,_]) hs)) ?_
 rintro e w ⟨u,B,Lv,G,rfl,hu1,hok,hq⟩
 refine⟨_,rfl,?_⟩
 replace hs:=Step.call (L1:=[_,_]) hs hq
 refine wA<|wZ<|sr<|wl ty24 rfl (hs.c0 rfl)<|wm<|ws1 ty24 rfl rfl (hu1) (hs) (fun w hs=>?_)
 refine wA<|wZ<|CW.ret ?_
 refine fin_cellTmp rfl rfl (run_loadVar1 ty24 (hs.c0 rfl)) ?_
 exact⟨u,B,Lv,G,rfl,hok,Step.tail (Step.tail (show Step [] (_::_::(Lv++G)) w0 w by simpa using hs))⟩
end Go.Gx
namespace Go.Gx
open Go.Proofs List
attribute [local irreducible] shaL cutD frontL
theorem findX_ins' {b:Blb}{X:List Blb} (h:SortedX X){d:List UInt8} (hd:d≠b.d):findX d (insX b X)=findX d X:=by
 have hp:=insX_perm b h
 rw[findX_perm hp ((hp.map _).nodup_iff.1 (insX_sorted b h).nodup) d,findX,List.find?_cons]
 have h1:decide (b.d=d)=false:=by simpa using fun e=>hd e.symm
 rw[h1]
 exact findX_del hd X
def digsK (k:Nat) (l:List (List UInt8)):List (List UInt8):=l.map fun x=>frontL x k
theorem digsK_app (k:Nat) (l:List (List UInt8)) (x:List UInt8):digsK k (l++[x])=digsK k l++[frontL x k]:=by simp[digsK]
theorem digsK_len (k:Nat) (l:List (List UInt8)):(digsK k l).length=l.length:=by simp[digsK]
def putAll (s:AS) (l:List (List UInt8)):AS:=l.foldl (fun s x=>(s.put x).2.2) s
theorem putAll_app (s:AS) (l:List (List UInt8)) (x:List UInt8):putAll s (l++[x])=((putAll s l).put x).2.2:=by simp[putAll,foldl_append]
structure PutOk (k:Nat) (l:List (List UInt8)) (s:AS):Prop where
 ok:s.Ok
 hk:s.k=k
 cap:s.cap=67108864
 few:s.Few l.length
 used:usedX s.X=(l.map fun x=>x.length+32).sum
 has:∀d,s.has d=decide (d∈digsK k l)
 get:∀x∈l,s.get (frontL x k)=(x,0)
 num:s.X.length=l.length
theorem PutOk.nil{k:Nat} (h1:1≤k) (h2:k≤32):PutOk k [] (newS k 67108864):=
 ⟨⟨h1,h2,Nat.le_refl _,List.Pairwise.nil,(fun b hb=>by cases hb),Nat.zero_le _⟩,rfl,rfl,⟨Nat.zero_le _,Nat.zero_le _,Nat.zero_le _⟩,rfl,(fun d=>rfl),(fun x hx=>by cases hx),rfl⟩
theorem PutOk.add{k:Nat}{l:List (List UInt8)}{s:AS} (h:PutOk k l s){x:List UInt8} (hn:frontL x k∉digsK k l) (hx:x.length≤1048576) (hu:((l++[x]).map fun x=>x.length+32).sum≤67108864) :
  (s.put x).1=frontL x k∧(s.put x).2.1=0∧PutOk k (l++[x]) (s.put x).2.2:=by
 have hk:=h.hk
 have h0:findX (frontL x k) s.X=none:=by
  have:=h.has (frontL x k)
  rw[decide_eq_false hn] at this
  unfold AS.has at this
  cases hf:findX (frontL x k) s.X with
  | none=>rfl
  | some b=>rw[hf] at this;cases this
 have hus:=used_ins h.ok.sorted ⟨frontL x k,x,s.last+1⟩
 simp only[h0] at hus
 have hsum:((l++[x]).map fun x=>x.length+32).sum=(l.map fun x=>x.length+32).sum+(x.length+32):=by simp
 have hlay:({ s with puts:=s.puts+1 }:AS).lay (frontL x k) x=some ⟨s.k,s.cap,s.last+1,s.gets,s.puts+1,insX ⟨frontL x k,x,s.last+1⟩ s.X⟩:=by
  unfold AS.lay
  rw[if_pos]
  show usedX (insX ⟨frontL x k,x,s.last+1⟩ s.X)≤s.cap
  have:=h.cap
  have:=h.used
  omega
 have hp:=put_new hx (by rw[hk]) h0 hlay
 have hok:=h.ok.put x
 rw[hp] at hok⊢
 have hle:=h.few
 have h32:=frontL_len (x:=x) (k:=k) (by have:=h.ok.k2;omega)
 refine⟨rfl,rfl,hok,hk,h.cap,⟨?_,?_,?_⟩,?_,fun d=>?_,fun y hy=>?_,?_⟩
 ·have:=hle.last
  simp only[length_append,length_singleton];omega
 ·have:=hle.gets
  simp only[length_append,length_singleton];omega
 ·have:=hle.puts
  simp only[length_append,length_singleton];omega
 ·have:=h.used
  show usedX (insX ⟨frontL x k,x,s.last+1⟩ s.X)=_
  rw[hsum];omega
 ·rw[digsK_app]
  show(findX d (insX ⟨frontL x k,x,s.last+1⟩ s.X)).isSome=_
  by_cases hd:d=frontL x k
  ·subst hd
   rw[findX_ins (b:=⟨frontL x k,x,s.last+1⟩) h.ok.sorted]
   simp
  ·rw[findX_ins' (b:=⟨frontL x k,x,s.last+1⟩) h.ok.sorted hd]
   have:=h.has d
   unfold AS.has at this
   rw[this]
   simp[hd]
 ·rcases mem_append.1 hy with hy | hy
  ·have hne:frontL y k≠frontL x k:=fun e=>hn (e▸mem_map_of_mem hy)
   have h1:=h.get y hy
   unfold AS.get at h1⊢
   show(match findX (frontL y k) (insX ⟨frontL x k,x,s.last+1⟩ s.X) with | none=>([],41) | some b=>if frontL b.x s.k=frontL y k then (b.x,0) else ([],42))=_
   rw[findX_ins' (b:=⟨frontL x k,x,s.last+1⟩) h.ok.sorted hne]
   exact h1
  ·obtain rfl:=mem_singleton.1 hy
   unfold AS.get
   show(match findX (frontL y k) (insX ⟨frontL y k,y,s.last+1⟩ s.X) with | none=>([],41) | some b=>if frontL b.x s.k=frontL y k then (b.x,0) else ([],42))=_
   rw[findX_ins (b:=⟨frontL y k,y,s.last+1⟩) h.ok.sorted]
   simp only[hk,if_true]
 ·show(insX ⟨frontL x k,x,s.last+1⟩ s.X).length=_
  rw[(insX_perm _ h.ok.sorted).length_eq,delX_none h0,length_cons,h.num,length_append]
  rfl
theorem sum_take{l:List (List UInt8)} (i:Nat):((l.take i).map fun x=>x.length+32).sum≤(l.map List.length).sum+32*l.length:=by
 have h1:∀l:List (List UInt8),(l.map fun x=>x.length+32).sum=(l.map List.length).sum+32*l.length:=fun l=>by
  induction l with
  | nil=>rfl
  | cons x l ih=>rw[map_cons,sum_cons,ih,map_cons,sum_cons,length_cons];omega
 have h2:∀(l:List (List UInt8)) (i:Nat),((l.take i).map fun x=>x.length+32).sum≤(l.map fun x=>x.length+32).sum:=fun l=>by
  induction l with
  | nil=>intro i;simp
  | cons x l ih=>
   intro i
   cases i with
   | zero=>simp
   | succ i=>rw[take_succ_cons,map_cons,sum_cons,map_cons,sum_cons];have:=ih i;omega
 rw[←h1]
 exact h2 l i
theorem nodup_snoc{l:List (List UInt8)}{d:List UInt8}:(l++[d]).Nodup↔l.Nodup∧d∉l:=by
 rw[nodup_append]
 constructor
 ·rintro⟨h1,_,h3⟩
  exact⟨h1,fun h=>h3 d h d (by simp) rfl⟩
 ·rintro⟨h1,h2⟩
  exact⟨h1,nodup_cons.2 ⟨by simp,nodup_nil⟩,fun a ha b hb e=>by
   rw[mem_singleton] at hb
   exact h2 (hb▸e▸ha)⟩
theorem eqD_spec{u v:Value}{l m:List (List UInt8)}{w0:World} (hu:Dgs w0 u l) (hv:Dgs w0 v m):CP 141 #[u,v] w0 (Ret0 (.bool (decide (l=m))) w0):=by
 have hs:Step [] [] w0 w0:=Step.refl w0
 have ob:=hu.form
 obtain⟨a,c,rfl⟩:=ob
 have ob:=hv.form
 obtain⟨a2,c2,rfl⟩:=ob
 have hsm:=hu.small
 have hsm2:=hv.small
 have ob:∃r,decide (l=m)=r:=⟨_,rfl⟩
 obtain⟨r,hr⟩:=ob
 rw[hr]
 by_cases hlen:l.length=m.length
 ·refine calls (n:=26) Tryz.func141 rfl rfl rfl ?_
  refine sr<|wA<|wZ<|cq<|sr<|wm<|wV (run_lenSl u35 rfl)<|wm<|wV (run_lenSl u35 rfl)<|wV (run_bF (run_neq rfl rfl) (by omega))<|wZ<|CW.cond rfl (fun h=>?_) (fun h=>?_)
  ·cases h
  refine ck<|cq<|sr<|wm<|wV (run_lenSl u35 rfl)<|wm<|wZ<|cB<|CW.loop (fun z f w'=>∃i,i≤l.length∧z=l.length - i∧l.take i=m.take i∧Step [] [] w0 w'∧Holds f [(0,.slice a l.length c),(1,.slice a2 m.length c2),(12,.int .i64 (l.length:Nat)),(13,.int .i64 (i:Nat))]) (m:=l.length) ?_ ?_
  ·exact⟨0,Nat.zero_le _,rfl,by simp,hs,rfl,rfl,rfl,rfl,trivial⟩
  ·rintro z f w ⟨i,hi,rfl,heq,hs,hf⟩
   have ob:=hf.chain
   obtain⟨g,rfl⟩:=ob
   by_cases hlt:i<l.length
   ·have ob:∃e,l[i]?=some e:=⟨_,getElem?_eq_getElem hlt⟩
    obtain⟨e,he⟩:=ob
    have ob:∃e,m[i]?=some e:=⟨_,getElem?_eq_getElem (by omega)⟩
    obtain⟨e2,he2⟩:=ob
    have ob:=hu.at he
    obtain⟨b,off,c',hb,hat⟩:=ob
    cases hb
    have ob:=hv.at he2
    obtain⟨b2,off2,c2',hb2,hat2⟩:=ob
    cases hb2
    have hel:=hu.len e (mem_of_getElem? he)
    have hel2:(u8s e).length=32:=by rw[u8s,length_map,hel]
    have hem:=hv.len e2 (mem_of_getElem? he2)
    have hem2:(u8s e2).length=32:=by rw[u8s,length_map,hem]
    refine sr<|wV (run_bT (run_lss rfl rfl) (by omega))<|wZ<|cq<|CW.cond rfl (fun h=>?_) (fun h=>?_)
    ·refine ck<|cq<|cB<|sr<|wm<|wA<|wZ ?_
     by_cases hed:e=e2
     ·refine cq<|CW.quiet mixedP (by kernel_rfl) hs ?_
      refine qm<|qm<|qV (fun w hs=>run_ixSlN u35 ty44 rfl rfl (by omega))<|qV (fun w hs=>run_loadN ty44 rfl hel2 (hat.step hs.clear (by simp)))<|qm<|qm<|qV (fun w hs=>run_ixSlN u35 ty44 rfl rfl (by omega))<|qV (fun w hs=>run_loadN ty44 rfl hem2 (hat2.step hs.clear (by simp)))<|qV (fun w hs=>run_bF (run_neDig hel hem rfl rfl) (fun h=>h hed))<|QL.nil (fun w hs=>?_)
      refine CW.cond rfl (fun h=>?_) (fun h=>?_)
      ·cases h
      refine ck<|cr<|wV (run_add (c:=((i+1:Nat):Int)) rfl rfl (by omega) (by omega))<|wm<|wZ<|(show _∧_ from⟨rfl,_,?_,i+1,hlt,rfl,?_,hs,rfl,rfl,rfl,rfl,trivial⟩)
      ·omega
      ·rw[take_add_one,take_add_one,he,he2,heq,hed]
     ·refine cq<|CW.quiet mixedP (by kernel_rfl) hs ?_
      refine qm<|qm<|qV (fun w hs=>run_ixSlN u35 ty44 rfl rfl (by omega))<|qV (fun w hs=>run_loadN ty44 rfl hel2 (hat.step hs.clear (by simp)))<|qm<|qm<|qV (fun w hs=>run_ixSlN u35 ty44 rfl rfl (by omega))<|qV (fun w hs=>run_loadN ty44 rfl hem2 (hat2.step hs.clear (by simp)))<|qV (fun w hs=>run_bT (run_neDig hel hem rfl rfl) hed)<|QL.nil (fun w hs=>?_)
      refine CW.cond rfl (fun h=>?_) (fun h=>?_)
      ·refine sr<|wA<|wZ<|CW.ret ?_
       refine fin_ret1 rfl ?_
       exact⟨congrArg (fun b=>Ending.returned (.bool b)) (by rw[←hr];symm;rw[decide_eq_false_iff_not];intro h;rw[h,he2] at he;exact hed (Option.some.inj he).symm),hs⟩
      ·cases h
    ·cases h
   ·obtain rfl:i=l.length:=by omega
    have hlm:l=m:=by
     rw[take_length,hlen,take_length] at heq;exact heq
    refine sr<|wV (run_bF (run_lss rfl rfl) (by omega))<|wZ<|cq<|CW.cond rfl (fun h=>?_) (fun h=>?_)
    ·cases h
    refine CW.exit<|sr<|wA<|wZ<|CW.ret ?_
    refine fin_ret1 rfl ?_
    exact⟨congrArg (fun b=>Ending.returned (.bool b)) (by rw[←hr];simp[hlm]),hs⟩
 ·refine calls (n:=26) Tryz.func141 rfl rfl rfl ?_
  refine sr<|wA<|wZ<|cq<|sr<|wm<|wV (run_lenSl u35 rfl)<|wm<|wV (run_lenSl u35 rfl)<|wV (run_bT (run_neq rfl rfl) (by omega))<|wZ<|CW.cond rfl (fun h=>?_) (fun h=>?_)
  ·refine sr<|wA<|wZ<|CW.ret ?_
   refine fin_ret1 rfl ?_
   exact⟨congrArg (fun b=>Ending.returned (.bool b)) (by rw[←hr];symm;rw[decide_eq_false_iff_not];intro h;exact hlen (congrArg _ h)),hs⟩
  ·cases h
theorem eqB_spec{u v:Value}{x:List UInt8}{w0:World} (hu:Sl w0 1 u x.length (u8s x)) (hv:Sl w0 1 v x.length (u8s x)):CP 92 #[u,v] w0 (Ret0 (.bool true) w0):=by
 have hs:Step [] [] w0 w0:=Step.refl w0
 have ob:=hu.form
 obtain⟨a,c,rfl⟩:=ob
 have ob:=hv.form
 obtain⟨a2,c2,rfl⟩:=ob
 refine calls (n:=10) Tryz.func92 rfl rfl rfl ?_
 refine sr<|wA<|wZ<|sr<|wm<|wV (run_toString u76 u9 u5 rfl (hu.step0 hs))<|wm<|wV (run_toString u76 u9 u5 rfl (hv.step0 hs))<|wV (run_bT (run_strEq rfl rfl) (by rfl))<|wA<|wZ<|CW.ret ?_
 refine fin_ret1 rfl ?_
 exact⟨rfl,hs⟩
def lastK (k:Nat) (l:List (List UInt8)):List UInt8:=frontL (l.getLastD []) k
def fitS (k:Nat) (l:List (List UInt8)):AS:=putAll (newS k 67108864) l
def fitB (k:Nat) (l of:List (List UInt8)):Bool:=decide ((digsK k l).Nodup∧(runs (fitS k l) rmG [rootS (lastK k l)] ws0).1=0∧of=digsK k l)
theorem fitB_dup{k:Nat}{l of:List (List UInt8)} (h:¬(digsK k l).Nodup):fitB k l of=false:=decide_eq_false fun hh=>h hh.1
theorem fitB_bad{k:Nat}{l of:List (List UInt8)} (h:(runs (fitS k l) rmG [rootS (lastK k l)] ws0).1≠0):fitB k l of=false:=decide_eq_false fun hh=>h hh.2.1
theorem fitB_ok{k:Nat}{l of:List (List UInt8)} (h:(digsK k l).Nodup) (h0:(runs (fitS k l) rmG [rootS (lastK k l)] ws0).1=0):fitB k l of=decide (of=digsK k l):=by
 unfold fitB
 simp[h,h0]
theorem last_get{l:List (List UInt8)} (h:0<l.length):l[l.length - 1]?=some (l.getLastD []):=by
 rw[getLastD_eq_getLast?,getLast?_eq_getElem?,getElem?_eq_getElem (by omega)]
 rfl
theorem digsK_get{k:Nat}{l:List (List UInt8)}{i:Nat}{x:List UInt8} (h:l[i]?=some x):(digsK k l)[i]?=some (frontL x k):=by simp[digsK,h]
theorem digsK_32{k:Nat} (hk:k≤32){l:List (List UInt8)}:∀d∈digsK k l,d.length=32:=fun d hd=>by
 have ob:=mem_map.1 hd
 obtain⟨x,_,rfl⟩:=ob
 exact frontL_len hk
theorem dup_take{k i:Nat}{l:List (List UInt8)}{x:List UInt8} (hx:l[i]?=some x) (h:frontL x k∈digsK k (l.take i)):¬(digsK k l).Nodup:=fun hn=>by
 have e:l=l.take i++x::l.drop (i+1):=by
  have ob:=List.getElem?_eq_some_iff.1 hx
  obtain⟨hlt,rfl⟩:=ob
  rw[←drop_eq_getElem_cons hlt,take_append_drop]
 rw[e,digsK,map_append,map_cons,nodup_append] at hn
 exact hn.2.2 _ h _ (by simp) rfl
section
variable{v:Value}{B:BL}{k kk:Nat}{gf of:List (List UInt8)}{D:List (Nat×Obj)}{w0:World}
set_option maxHeartbeats 8000000 in
theorem fits8_spec (hk1:1≤k) (hk:k≤32) (hvB:∃Lv,OwnSl 76 1 v B.length (cellsB B) Lv∧∀p∈Lv,p∈D) (hB:BOk D B) (hne:0<B.length) (hn:B.length≤65536) (hsum:((B.map (·.2)).map List.length).sum≤4194304)
  (hG:(digsK k (B.map (·.2))).Nodup→(runs (fitS k (B.map (·.2))) rmG [rootS (lastK k (B.map (·.2)))] ws0).1=0→Goes (partsM (fitS k (B.map (·.2))) (runs (fitS k (B.map (·.2))) rmG [rootS (lastK k (B.map (·.2)))] ws0).2.m) [lastK k (B.map (·.2))] [] [] gf of kk) (hw:Lives D w0) :
  CP 97 #[.int .i64 (k:Nat),v] w0 (Ret0 (.bool (fitB k (B.map (·.2)) of)) w0):=by
 have ob:∃l,B.map (·.2)=l:=⟨_,rfl⟩
 obtain⟨l,hl⟩:=ob
 rw[hl] at hsum hG⊢
 have hll:l.length=B.length:=by rw[←hl,length_map]
 have hs:Step (List.map (·.1) D) D w0 w0:=hw
 obtain⟨Lb,hvb,hLb⟩:=hvB
 have hfin:∀{Y:List (Nat×Obj)}{w:World},Step (List.map (·.1) D) (Y++D) w0 w→Step [] [] w0 w:=fun h=>(Step.fin3 (A:=[]) (O:=[]) hw h).clear
 have hvs:∀{Y:List (Nat×Obj)}{w:World},Step (List.map (·.1) D) Y w0 w→(∀p∈D,p∈Y)→Sl w 1 v B.length (B.map fun t=>t.1):=fun h hm=>hvb.slW fun p hp=>h.has p (hm p (hLb p hp))
 have ob:∃tl,B[B.length - 1]?=some tl:=⟨_,getElem?_eq_getElem (by omega)⟩
 obtain⟨tl,htl⟩:=ob
 have ob:=sl_at1 (c:=fun t:Value×List UInt8=>t.1) (hvs hs fun p hp=>hp) htl
 obtain⟨bb,bo,bc,hbe,_⟩:=ob
 subst hbe
 refine calls (n:=86) Tryz.func97 rfl rfl rfl ?_
 refine sr<|wA<|wZ<|sr<|wm<|wE rfl (run_call en56 rfl rfl) (new_abs hk1 hk (c:=67108864) (by decide) _) ?_
 rintro e w ⟨bp,L0,rfl,hP0,hq⟩
 refine⟨_,rfl,?_⟩
 replace hs:=Step.call0 hs hq
 refine wm<|wx rfl rfl<|wx rfl rfl<|wA<|wA<|wZ<|cq<|sr<|wm<|wV (run_bF (run_neq rfl rfl) (by exact fun h=>h rfl))<|wZ<|CW.cond rfl (fun h=>?_) (fun h=>?_)
 ·cases h
 refine ck<|sr<|wA<|wZ<|cq<|sr<|wm<|wV (run_lenSl u24 rfl)<|wm<|wZ<|cB<|CW.loop (fun z f w'=>∃(i:Nat) (vO:Value) (LO Lc Dc:List (Nat×Obj)),i≤B.length∧z=B.length - i∧(digsK k (l.take i)).Nodup∧PutOk k (l.take i) (fitS k (l.take i))∧OwnSl 44 32 vO (digsK k (l.take i)).length (digsL (digsK k (l.take i))) LO∧PRep bp (fitS k (l.take i)) (Dc++D) Lc∧Step (List.map (·.1) D) (LO++(Lc++(Dc++D))) w0 w'∧Holds f [(1,.slice (some ⟨bb,bo,none⟩) B.length bc),(5,.pointer (some ⟨bp,0,none⟩)),(7,vO),(21,.slice (some ⟨bb,bo,none⟩) B.length bc),(22,.int .i64 (B.length:Nat)),(23,.int .i64 (i:Nat))]) (m:=B.length) ?_ ?_
 ·exact⟨0,_,[],L0,[],Nat.zero_le _,rfl,nodup_nil,PutOk.nil hk1 hk,OwnSl.nil _ _,hP0.mono (fun p hp=>by cases hp),hs,rfl,rfl,rfl,rfl,rfl,rfl,trivial⟩
 clear hs hP0
 rintro z f w ⟨i,vO,LO,Lc,Dc,hil,rfl,hnd,hPO,hvO,hP,hs,hf⟩
 have ob:=hf.chain
 obtain⟨g,rfl⟩:=ob
 by_cases hlt:i<B.length
 ·have ob:∃t,B[i]?=some t:=⟨_,getElem?_eq_getElem hlt⟩
  obtain⟨t,ht⟩:=ob
  have ob:=hB t (mem_of_getElem? ht)
  obtain⟨⟨LD,hvt,hLD⟩,htl1⟩:=ob
  have ob:∃x,t.2=x:=⟨_,rfl⟩
  obtain⟨x,hxe⟩:=ob
  rw[hxe] at hvt htl1
  have hx:l[i]?=some x:=by rw[←hl,getElem?_map,ht,←hxe];rfl
  have htk:l.take (i+1)=l.take i++[x]:=by rw[take_add_one,hx];rfl
  have ob:∃d,frontL x k=d:=⟨_,rfl⟩
  obtain⟨d,hd⟩:=ob
  have hd32:d.length=32:=by rw[←hd];exact frontL_len hk
  have hdl:(u8s d).length=32:=by rw[u8s,length_map,hd32]
  have ob:=hvt.form
  obtain⟨ta,tc,hte⟩:=ob
  have hcell:∀{Y:List (Nat×Obj)}{w:World},Step (List.map (·.1) D) Y w0 w→(∀p∈D,p∈Y)→w.cell? ⟨bb,bo+i*1,none⟩=some (.slice ta x.length tc):=fun h hm=>by
   have ob:=sl_at1 (c:=fun t:Value×List UInt8=>t.1) (hvs h hm) ht
   obtain⟨b2,o2,c2,he,hc⟩:=ob
   cases he
   rw[hc,hte]
  have hDc:∀p∈D,p∈LO++(Lc++(Dc++D)):=fun p hp=>by simp[hp]
  have hHt:Held (Dc++D) (.slice ta x.length tc) x:=⟨LD,hte▸hvt,fun p hp=>mem_append_right _ (hLD p hp)⟩
  have hroom:Room (.slice ta x.length tc):=hHt.room
  have hdig:=fun{w1:World} (h:Lives (Lc++(Dc++D)) w1)=>digest_abs (w0:=w1) (y:=x) hP hPO.ok h (hHt.sl fun p hp=>h.has p (mem_append_right _ hp)) hroom (by omega)
  have hhas:=fun{w1:World} (h:Lives (Lc++(Dc++D)) w1)=>has_abs (w0:=w1) hP hPO.ok h hd32
  have hph:=hPO.has d
  have hdn:(digsK k (l.take i)).length=i:=by rw[digsK_len,length_take];omega
  have hpk:=hPO.hk
  rw[hpk,hd] at hdig
  rw[hph] at hhas
  refine sr<|wV (run_bT (run_lss rfl rfl) (by omega))<|wZ<|cq<|CW.cond rfl (fun h=>?_) (fun h=>?_)
  ·refine ck<|cq<|cB<|sr<|wV (run_ixSlN u24 ty76 rfl rfl (by omega))<|wl ty76 rfl (hcell hs hDc)<|wA<|wZ<|sr<|wm<|wm<|wE rfl (run_call en91 rfl rfl) (hdig (Lives.mk (Step.dropL (L1:=LO) hs))) ?_
   rintro e w ⟨rfl,hq⟩
   refine⟨_,rfl,?_⟩
   replace hs:=hs.callE hq
   refine WL.alloc ty44 rfl hs (fun b10 w hs=>?_)
   refine WL.storeAll ty44 rfl rfl ((hdl)) ((Cells1.u8s _)) hs (by rfl) (fun w hs=>?_)
   refine wZ ?_
   by_cases hin:d∈digsK k (l.take i)
   ·rw[decide_eq_true hin] at hhas
    refine cq<|sr<|wm<|wV (run_loadN ty44 rfl hdl hs.a0)<|wE rfl (run_call en122 rfl rfl) (hhas (Lives.mk (Step.dropL (L1:=LO) hs.tail))) ?_
    rintro e w ⟨rfl,hq⟩
    refine⟨_,rfl,?_⟩
    replace hs:=hs.callE hq
    refine wZ<|CW.cond rfl (fun h=>?_) (fun h=>?_)
    ·refine sr<|wA<|wZ<|CW.ret ?_
     refine fin_ret1 rfl ?_
     rw[fitB_dup (dup_take hx (by rw[hd];exact hin))]
     exact⟨rfl,hfin (Y:=LO++(Lc++Dc)) (by rw[append_assoc,append_assoc];exact hs.tail)⟩
    ·cases h
   ·rw[decide_eq_false hin] at hhas
    have hnd2:(digsK k (l.take (i+1))).Nodup:=by
     rw[htk,digsK_app,hd,nodup_snoc]
     exact⟨hnd,hin⟩
    have hadd:=hPO.add (x:=x) (by rw[hd];exact hin) htl1 (by
     rw[←htk]
     have:=sum_take (l:=l) (i+1)
     omega)
    have hput:=fun{w1:World} (h:Lives (Lc++(Dc++D)) w1)=>put_abs (w0:=w1) (y:=x) hP hPO.ok hPO.few (by rw[length_take];omega) h (hHt.sl fun p hp=>h.has p (mem_append_right _ hp)) hroom (.inr (Own.outside (A:=[]) (L:=Lc) (D:=Dc++D) h hHt)) (by omega)
    obtain⟨a1,a2,hPO2⟩:=hadd
    rw[hd] at a1
    simp only[a1,a2] at hput
    have hfs:((fitS k (l.take i)).put x).2.2=fitS k (l.take (i+1)):=by rw[htk,fitS,fitS,putAll_app]
    rw[hfs,←htk] at hPO2
    rw[hfs] at hput
    refine cq<|sr<|wm<|wV (run_loadN ty44 rfl hdl hs.a0)<|wE rfl (run_call en122 rfl rfl) (hhas (Lives.mk (Step.dropL (L1:=LO) hs.tail))) ?_
    rintro e w ⟨rfl,hq⟩
    refine⟨_,rfl,?_⟩
    replace hs:=hs.callE hq
    refine wZ<|CW.cond rfl (fun h=>?_) (fun h=>?_)
    ·cases h
    refine ck<|cq<|sr<|wm<|wm<|wE rfl (run_call en36 rfl rfl) (hput (Lives.mk (Step.dropL (L1:=LO) hs.tail))) ?_
    rintro e w ⟨L2,D2,rfl,hP2,hq⟩
    refine⟨_,rfl,?_⟩
    replace hs:=Own.put (A:=(b10,blk 44 (u8s d))::LO) (L:=Lc) hs hq
    refine wm<|wx rfl rfl<|wx rfl rfl<|WL.alloc ty44 rfl hs (fun b11 w hs=>?_)
    refine WL.storeAll ty44 rfl rfl ((hdl)) ((Cells1.u8s _)) hs (by rfl) (fun w hs=>?_)
    refine wA<|wZ ?_
    replace hs:=hs.tail
    refine sr<|wm<|wV (run_bF (run_neq rfl rfl) (by exact fun h=>h rfl))<|wZ<|CW.cond rfl (fun h=>?_) (fun h=>?_)
    ·cases h
    refine ck<|cr<|wm<|wV (run_loadN ty44 rfl hdl hs.a0)<|WL.buildSlice (cs:=u8s d) u35 ty44 rfl (by decide) rfl (filled1 hdl rfl) rfl hs (fun b43 w hs=>?_)
    have hsl43:Sl w 32 (.slice (some ⟨b43,0,none⟩) 1 1) 1 (u8s d):=.own1 hs (by rw[hdl])
    replace hs:=Step.in2 (Z:=LO) hs
    refine WL.append u35 u35 ty44 rfl (by decide) rfl rfl (hvO) (hs) (hsl43) (Cells1.u8s _) (by omega) rfl (fun v44 Lv44 w hv44 hs=>?_)
    replace hs:=(Step.out2b hs).tail
    refine wA<|wZ<|cr<|wV (run_add (c:=((i+1:Nat):Int)) rfl rfl (by omega) (by omega))<|wm<|wZ<|(show _∧_ from⟨rfl,_,?_,i+1,v44,Lv44,L2,D2++Dc,hlt,rfl,hnd2,hPO2,?_,?_,?_,rfl,rfl,rfl,rfl,rfl,rfl,trivial⟩)
    ·omega
    ·rw[htk,digsK_app,hd,length_append,digsL_snoc]
     exact hv44
    ·rw[append_assoc];exact hP2
    ·rw[append_assoc];exact hs
  ·cases h
 ·obtain rfl:i=B.length:=by omega
  have htk:l.take B.length=l:=by rw[←hll,take_length]
  rw[htk] at hnd hPO hvO hP
  have hlg:=last_get (l:=l) (by omega)
  rw[hll] at hlg
  have ob:∃x,l.getLastD []=x:=⟨_,rfl⟩
  obtain⟨x,hxe⟩:=ob
  have ob:∃d,lastK k l=d:=⟨_,rfl⟩
  obtain⟨d,hd⟩:=ob
  have hdx:frontL x k=d:=by rw[←hd,←hxe];rfl
  rw[hxe] at hlg
  have hdg:=digsK_get (k:=k) hlg
  rw[hdx] at hdg
  have hd32:d.length=32:=by rw[←hdx];exact frontL_len hk
  have hdl:(u8s d).length=32:=by rw[u8s,length_map,hd32]
  have hdn:(digsK k l).length=B.length:=by rw[digsK_len,hll]
  rw[hdn] at hvO
  have hgx:=hPO.get x (mem_of_getElem? hlg)
  rw[hdx] at hgx
  have htx:tl.2=x:=by
   rw[←hl,getElem?_map,htl] at hlg
   exact Option.some.inj hlg
  have ob:=hvO.some1 (by omega)
  obtain⟨bu,cu,more,hu1,hu2,hu3⟩:=ob
  have hO:=hvO
  subst hu1
  have hbad:=fun h=>fitB_bad (k:=k) (l:=l) (of:=of) h
  have hfok:=fun h=>fitB_ok (k:=k) (l:=l) (of:=of) hnd h
  have hG:=hG hnd
  rw[hd] at hG hbad hfok
  have hwk:=fun{w1:World} h=>fwalk_spec (w0:=w1) (rn:=65536) (rd:=32) (rb:=67108864) hP hPO.ok hPO.few (by omega) hd32 rmG_ok h
  have hmet:=fun{t:WS} h=>runs_met (s:=fitS k l) (rm:=rmOf 65536 32 67108864) (t:=t) hd32 h
  have hgd:=standP_good (s:=fitS k l) (rm:=rmOf 65536 32 67108864) rmG_ok 34 (x:=rootS d) (t:=ws0) (ws0_good.mono (by omega))
  rw[←runs_root] at hgd
  rw[show rmG=rmOf 65536 32 67108864 from rfl] at hG hbad hfok
  have ob:∃r,runs (fitS k l) (rmOf 65536 32 67108864) [rootS d] ws0=r:=⟨_,rfl⟩
  obtain⟨r,hr⟩:=ob
  rw[hr] at hwk hG hgd hbad hfok
  have hat:∀{Y:List (Nat×Obj)}{w:World},Step (List.map (·.1) D) Y w0 w→(∀p∈LO,p∈Y)→At w bu (0+(B.length - 1)*32) (u8s d):=fun h hm=>digsL_at (digsK_32 hk) (At.of_blk (h.has (bu,blk 44 (digsL (digsK k l)++more)) (hm _ (by rw[hu2];exact mem_singleton.2 rfl)))).left hdg
  refine sr<|wV (run_bF (run_lss rfl rfl) (by omega))<|wZ<|cq<|CW.cond rfl (fun h=>?_) (fun h=>?_)
  ·cases h
  refine CW.exit<|sr<|wm<|wm<|wm<|wV (run_lenSl u35 rfl)<|wV (run_sub (c:=((B.length - 1:Nat):Int)) rfl rfl (by omega) (by omega))<|wV (run_ixSlN u35 ty44 rfl rfl (by omega))<|wV (run_loadN ty44 rfl hdl (hat hs (fun p hp=>mem_append_left _ hp)))<|wV (run_build rfl (bld_room _ _ _ _))<|wE rfl (run_call en64 rfl rfl) (hwk (Lives.mk (Step.dropL (L1:=LO) hs))) ?_
  rintro e w ⟨vm,L1,D1,M,rfl,hP1,hM,hnil,hq⟩
  refine⟨_,rfl,?_⟩
  replace hs:=Own.put (A:=LO) (L:=Lc) hs hq
  refine wm<|wx rfl rfl<|wx rfl rfl<|wA<|wA<|wZ ?_
  by_cases he:r.1≠0
  ·rw[hbad he]
   refine cq<|CW.any (A:=fun w=>True) (C:=fun w=>True) 1000000 29 mixedP rfl ?_
   replace hs:=hs.drew
   refine aM 0 rfl<|aV 1 rfl (fun w hs=>run_bF (run_eql rfl rfl) (by exact he))<|aM 2 rfl<|AL.valN 3 rfl (by kernel_rfl) rfl rfl rfl (.inl rfl) ?_
   refine AL.valN 4 rfl (by kernel_rfl) rfl rfl rfl (.inl rfl) ?_
   refine AL.valN 5 rfl (by kernel_rfl) rfl rfl rfl (.inl rfl) ?_
   refine AL.valN 6 rfl (by kernel_rfl) rfl rfl rfl (.inl rfl) ?_
   refine aV 7 rfl (fun w hs=>run_pickF rfl)<|aM 8 rfl<|AL.valN 9 rfl (by kernel_rfl) rfl rfl rfl (.inl rfl) ?_
   refine AL.valN 10 rfl (by kernel_rfl) rfl rfl rfl (.inl rfl) ?_
   refine AL.valN 11 rfl (by kernel_rfl) rfl rfl rfl (.inl rfl) ?_
   refine AL.valN 12 rfl (by kernel_rfl) rfl rfl rfl (.inl rfl) ?_
   refine AL.valN 13 rfl (by kernel_rfl) rfl rfl rfl (.inl rfl) ?_
   refine AL.valN 14 rfl (by kernel_rfl) rfl rfl rfl (.inl rfl) ?_
   refine AL.valN 15 rfl (by kernel_rfl) rfl rfl rfl (.inl rfl) ?_
   refine AL.valN 16 rfl (by kernel_rfl) rfl rfl rfl (.inl rfl) ?_
   refine AL.valN 17 rfl (by kernel_rfl) rfl rfl rfl (.inl rfl) ?_
   refine AL.valN 18 rfl (by kernel_rfl) rfl rfl rfl (.inl rfl) ?_
   refine AL.valN 19 rfl (by kernel_rfl) rfl rfl rfl (.inl rfl) ?_
   refine AL.valN 20 rfl (by kernel_rfl) rfl rfl rfl (.inl rfl) ?_
   refine AL.valN 21 rfl (by kernel_rfl) rfl rfl rfl (.inl rfl) ?_
   refine AL.valN 22 rfl (by kernel_rfl) rfl rfl rfl (.inl rfl) ?_
   refine AL.valN 23 rfl (by kernel_rfl) rfl rfl rfl (.inl rfl) ?_
   refine AL.valN 24 rfl (by kernel_rfl) rfl rfl rfl (.inl rfl) ?_
   refine AL.valN 25 rfl (by kernel_rfl) rfl rfl rfl (.inl rfl) ?_
   refine AL.valN 26 rfl (by kernel_rfl) rfl rfl rfl (.inl rfl) ?_
   refine aV 27 rfl (fun w hs=>run_pickF rfl)<|aV 28 rfl (fun w hs=>run_assign)<|AL.end (by kernel_rfl) (trivial) (trivial) ?_
   refine CW.ret ?_
   refine fin_ret1 rfl ?_
   exact⟨rfl,hfin (Y:=LO++(L1++(M++(D1++Dc)))) (by simpa only[append_assoc] using hs)⟩
  have he0:r.1=0:=by simpa using he
  have hmet:=hmet (t:=r.2) (by rw[hr,←he0])
  have hgd:=hgd he0
  have hml:r.2.m.length≤65536:=Nat.le_trans hgd.m hgd.n
  have ob:=hmet.of_le (hG he0)
  obtain⟨hol,hofU⟩:=ob
  have hof32:∀y∈of,y.length=32:=fun y hy=>hmet.len y (hofU y hy)
  have ob:=hM he0
  obtain⟨bm,rfl,hMet⟩:=ob
  have hMet0:=hMet
  obtain⟨vM,LM,q1,M1,c1,q2,M2,c2,rfl,hOM,hBM,hPM⟩:=hMet
  have hbv:=hBM.val d
  have hdU:d∈ordM r.2.m:=mem_of_getElem? hmet.head
  obtain⟨u,hu,hHl⟩:∃u,((findD d M1 0).map (·.2)).getD (.slice none 0 0)=u∧Held (D1++(Dc++D)) u x:=by
   cases hv:valD d M1 with
   | none=>rw[hv] at hbv;exact absurd hdU hbv
   | some u=>
    rw[hv,hgx] at hbv
    refine⟨u,?_,hbv.2⟩
    show(valD d M1).getD _=_
    rw[hv];rfl
  have ob:=hB tl (mem_of_getElem? htl)
  obtain⟨⟨LD,hvt,hLD⟩,_⟩:=ob
  rw[htx] at hvt
  have hHt:Held D tl.1 x:=⟨LD,hvt,hLD⟩
  have hcl:∀{Y:List (Nat×Obj)}{w:World},Step (List.map (·.1) D) Y w0 w→(∀p∈D,p∈Y)→w.cell? ⟨bb,bo+(B.length - 1)*1,none⟩=some tl.1:=fun h hm=>by
   have ob:=sl_at1 (c:=fun t:Value×List UInt8=>t.1) (hvs h hm) htl
   obtain⟨b2,o2,c2,he,hc⟩:=ob
   cases he
   exact hc
  replace hs:Step (List.map (·.1) D) (LO++(L1++(((bm,blk 132 [vM,.map (some q1),.map (some q2)])::(q1,mapObj M1 c1)::(q2,mapObj M2 c2)::LM)++(D1++(Dc++D))))) w0 w:=by simpa only[append_assoc] using hs
  have hK:∀{Y:List (Nat×Obj)}{w:World},Step (List.map (·.1) D) Y w0 w→(∀p∈LO++(L1++(((bm,blk 132 [vM,.map (some q1),.map (some q2)])::(q1,mapObj M1 c1)::(q2,mapObj M2 c2)::LM)++(D1++(Dc++D)))),p∈Y)→w.heap[bm]?=some (blk 132 [vM,.map (some q1),.map (some q2)])∧w.heap[q1]?=some (mapObj M1 c1)∧At w bu (0+(B.length - 1)*32) (u8s d)∧w.cell? ⟨bb,bo+(B.length - 1)*1,none⟩=some tl.1:=fun h hm=>⟨h.has (bm,blk 132 [vM,.map (some q1),.map (some q2)]) (hm _ (by simp)),h.has (q1,mapObj M1 c1) (hm _ (by simp)),hat h (fun p hp=>hm p (by simp[hp])),hcl h (fun p hp=>hm p (by simp[hp]))⟩
  rw[hfok he0]
  have hbeh:=fun{w1:World} (h:Step (List.map (·.1) D) (LO++(L1++(((bm,blk 132 [vM,.map (some q1),.map (some q2)])::(q1,mapObj M1 c1)::(q2,mapObj M2 c2)::LM)++(D1++(Dc++D))))) w0 w1)=>behind_spec hMet0 (Lives.mk (Step.dropL (L1:=L1) (Step.dropL (L1:=LO) h))) hmet.len hmet.sub (partsM_len (fitS k l) _) hml hmet.head (hG he0)
  have heq:=fun{w1:World}{v2:Value}{L2:List (Nat×Obj)} (h:Step (List.map (·.1) D) (L2++(LO++(L1++(((bm,blk 132 [vM,.map (some q1),.map (some q2)])::(q1,mapObj M1 c1)::(q2,mapObj M2 c2)::LM)++(D1++(Dc++D)))))) w0 w1) (h2:OwnSl 44 32 v2 of.length (digsL of) L2)=>eqD_spec (w0:=w1) (l:=of) (m:=digsK k l) (Dgs.own h2 (fun p hp=>h.has p (mem_append_left _ hp)) hof32 (by omega)) (Dgs.own (by rw[hdn];exact hO) (fun p hp=>h.has p (by simp[hp])) (digsK_32 hk) (by omega))
  have hfin2:∀{L2:List (Nat×Obj)}{w:World},Step (List.map (·.1) D) (L2++(LO++(L1++(((bm,blk 132 [vM,.map (some q1),.map (some q2)])::(q1,mapObj M1 c1)::(q2,mapObj M2 c2)::LM)++(D1++(Dc++D)))))) w0 w→Step [] [] w0 w:=fun {L2 w} h=>hfin (Y:=L2++(LO++(L1++(((bm,blk 132 [vM,.map (some q1),.map (some q2)])::(q1,mapObj M1 c1)::(q2,mapObj M2 c2)::LM)++(D1++Dc))))) (by simpa only[append_assoc] using h)
  by_cases hod:of=digsK k l
  ·rw[decide_eq_true hod] at heq⊢
   have heqb:=fun{w1:World}{L2:List (Nat×Obj)} (h:Step (List.map (·.1) D) (L2++(LO++(L1++(((bm,blk 132 [vM,.map (some q1),.map (some q2)])::(q1,mapObj M1 c1)::(q2,mapObj M2 c2)::LM)++(D1++(Dc++D)))))) w0 w1)=>eqB_spec (w0:=w1) (hHl.sl fun p hp=>h.has p (by simp only[mem_append] at hp⊢;rcases hp with hp | hp | hp <;> simp[hp])) (hHt.sl fun p hp=>h.has p (by simp[hp]))
   refine cq<|CW.any (A:=fun w=>w.heap[bm]?=some (blk 132 [vM,.map (some q1),.map (some q2)])∧w.heap[q1]?=some (mapObj M1 c1)∧At w bu (0+(B.length - 1)*32) (u8s d)∧w.cell? ⟨bb,bo+(B.length - 1)*1,none⟩=some tl.1) (C:=fun w=>w.heap[bm]?=some (blk 132 [vM,.map (some q1),.map (some q2)])∧w.heap[q1]?=some (mapObj M1 c1)∧At w bu (0+(B.length - 1)*32) (u8s d)∧w.cell? ⟨bb,bo+(B.length - 1)*1,none⟩=some tl.1) 1000000 29 mixedP rfl ?_
   replace hs:=hs.drew
   refine aM 0 rfl<|aV 1 rfl (fun w hs=>run_bT (run_eql rfl rfl) (by exact he0))<|aM 2 rfl<|AL.valY 3 rfl (by kernel_rfl) rfl rfl rfl rfl (fun w hs=>run_move) ?_
   refine AL.valY 5 rfl (by kernel_rfl) rfl rfl rfl rfl (fun w hs=>run_move) ?_
   refine AL.one 4 (by kernel_rfl) rfl (by exact hK hs (fun p hp=>hp)) (by exact hK hs (fun p hp=>hp)) ?_
   refine wy<|wE rfl (run_call en70 rfl rfl) (hbeh hs) ?_
   rintro e w ⟨vo,Lo,rfl,hvo,hq⟩
   refine⟨_,rfl,?_⟩
   replace hs:=Step.call0 hs hq
   refine wZ<|⟨rfl,?_⟩
   refine AL.one 6 (by kernel_rfl) rfl (by exact hK hs (fun p hp=>mem_append_right _ hp)) (by exact hK hs (fun p hp=>mem_append_right _ hp)) ?_
   refine wy<|wE rfl (run_call en141 rfl rfl) (heq hs hvo) ?_
   rintro e w ⟨rfl,hq2⟩
   refine⟨_,rfl,?_⟩
   replace hs:=hs.callE hq2
   refine wZ<|⟨rfl,?_⟩
   refine aV 7 rfl (fun w hs=>run_pickT rfl)<|aM 8 rfl<|AL.valY 9 rfl (by kernel_rfl) rfl rfl rfl rfl (fun w hs=>run_move) ?_
   refine AL.valY 10 rfl (by kernel_rfl) rfl rfl rfl rfl (fun w hs=>run_nilCheck rfl) ?_
   refine AL.valY 11 rfl (by kernel_rfl) rfl rfl rfl rfl (fun w hs=>run_field (o':=1) u132 rfl ty129 rfl rfl rfl) ?_
   refine AL.valY 12 rfl (by kernel_rfl) rfl rfl rfl rfl (fun w hs=>run_load1 ty129 rfl ((At.of_blk hs.1).cell (j:=1) rfl)) ?_
   refine AL.valY 13 rfl (by kernel_rfl) rfl rfl rfl rfl (fun w hs=>run_move) ?_
   refine AL.valY 14 rfl (by kernel_rfl) rfl rfl rfl rfl (fun w hs=>run_move) ?_
   refine AL.valY 15 rfl (by kernel_rfl) rfl rfl rfl rfl (fun w hs=>run_lenSl u35 rfl) ?_
   refine AL.valY 16 rfl (by kernel_rfl) rfl rfl rfl rfl (fun w hs=>run_sub (c:=((B.length - 1:Nat):Int)) rfl rfl (by omega) (by omega)) ?_
   refine AL.valY 17 rfl (by kernel_rfl) rfl rfl rfl rfl (fun w hs=>run_ixSlN u35 ty44 rfl rfl (by omega)) ?_
   refine AL.valY 18 rfl (by kernel_rfl) rfl rfl rfl rfl (fun w hs=>run_loadN ty44 rfl hdl hs.2.2.1) ?_
   refine AL.valY 19 rfl (by kernel_rfl) rfl rfl rfl rfl (fun w hs=>run_lookupV u129 (zBytes _) hBM.keys hd32 hu rfl rfl hs.2.1) ?_
   refine AL.valY 20 rfl (by kernel_rfl) rfl rfl rfl rfl (fun w hs=>run_move) ?_
   refine AL.valY 21 rfl (by kernel_rfl) rfl rfl rfl rfl (fun w hs=>run_move) ?_
   refine AL.valY 22 rfl (by kernel_rfl) rfl rfl rfl rfl (fun w hs=>run_lenSl u24 rfl) ?_
   refine AL.valY 23 rfl (by kernel_rfl) rfl rfl rfl rfl (fun w hs=>run_sub (c:=((B.length - 1:Nat):Int)) rfl rfl (by omega) (by omega)) ?_
   refine AL.valY 24 rfl (by kernel_rfl) rfl rfl rfl rfl (fun w hs=>run_ixSlN u24 ty76 rfl rfl (by omega)) ?_
   refine AL.valY 25 rfl (by kernel_rfl) rfl rfl rfl rfl (fun w hs=>run_load1 ty76 rfl (hs.2.2.2)) ?_
   refine AL.one 26 (by kernel_rfl) rfl (by exact hK hs (fun p hp=>mem_append_right _ hp)) (by exact hK hs (fun p hp=>mem_append_right _ hp)) ?_
   refine wy<|wE rfl (run_call en92 rfl rfl) (heqb hs) ?_
   rintro e w ⟨rfl,hq3⟩
   refine⟨_,rfl,?_⟩
   replace hs:=hs.callE hq3
   refine wZ<|⟨rfl,?_⟩
   refine aV 27 rfl (fun w hs=>run_pickT rfl)<|aV 28 rfl (fun w hs=>run_assign)<|AL.end (by kernel_rfl) (by exact hK hs (fun p hp=>mem_append_right _ hp)) (by exact hK hs (fun p hp=>mem_append_right _ hp)) ?_
   refine CW.ret ?_
   refine fin_ret1 rfl ?_
   exact⟨rfl,hfin2 hs⟩
  ·rw[decide_eq_false hod] at heq⊢
   refine cq<|CW.any (A:=fun w=>w.heap[bm]?=some (blk 132 [vM,.map (some q1),.map (some q2)])∧w.heap[q1]?=some (mapObj M1 c1)∧At w bu (0+(B.length - 1)*32) (u8s d)∧w.cell? ⟨bb,bo+(B.length - 1)*1,none⟩=some tl.1) (C:=fun w=>w.heap[bm]?=some (blk 132 [vM,.map (some q1),.map (some q2)])∧w.heap[q1]?=some (mapObj M1 c1)∧At w bu (0+(B.length - 1)*32) (u8s d)∧w.cell? ⟨bb,bo+(B.length - 1)*1,none⟩=some tl.1) 1000000 29 mixedP rfl ?_
   replace hs:=hs.drew
   refine aM 0 rfl<|aV 1 rfl (fun w hs=>run_bT (run_eql rfl rfl) (by exact he0))<|aM 2 rfl<|AL.valY 3 rfl (by kernel_rfl) rfl rfl rfl rfl (fun w hs=>run_move) ?_
   refine AL.valY 5 rfl (by kernel_rfl) rfl rfl rfl rfl (fun w hs=>run_move) ?_
   refine AL.one 4 (by kernel_rfl) rfl (by exact hK hs (fun p hp=>hp)) (by exact hK hs (fun p hp=>hp)) ?_
   refine wy<|wE rfl (run_call en70 rfl rfl) (hbeh hs) ?_
   rintro e w ⟨vo,Lo,rfl,hvo,hq⟩
   refine⟨_,rfl,?_⟩
   replace hs:=Step.call0 hs hq
   refine wZ<|⟨rfl,?_⟩
   refine AL.one 6 (by kernel_rfl) rfl (by exact hK hs (fun p hp=>mem_append_right _ hp)) (by exact hK hs (fun p hp=>mem_append_right _ hp)) ?_
   refine wy<|wE rfl (run_call en141 rfl rfl) (heq hs hvo) ?_
   rintro e w ⟨rfl,hq2⟩
   refine⟨_,rfl,?_⟩
   replace hs:=hs.callE hq2
   refine wZ<|⟨rfl,?_⟩
   refine aV 7 rfl (fun w hs=>run_pickT rfl)<|aM 8 rfl<|AL.valN 9 rfl (by kernel_rfl) rfl rfl rfl (.inl rfl) ?_
   refine AL.valN 10 rfl (by kernel_rfl) rfl rfl rfl (.inl rfl) ?_
   refine AL.valN 11 rfl (by kernel_rfl) rfl rfl rfl (.inl rfl) ?_
   refine AL.valN 12 rfl (by kernel_rfl) rfl rfl rfl (.inl rfl) ?_
   refine AL.valN 13 rfl (by kernel_rfl) rfl rfl rfl (.inl rfl) ?_
   refine AL.valN 14 rfl (by kernel_rfl) rfl rfl rfl (.inl rfl) ?_
   refine AL.valN 15 rfl (by kernel_rfl) rfl rfl rfl (.inl rfl) ?_
   refine AL.valN 16 rfl (by kernel_rfl) rfl rfl rfl (.inl rfl) ?_
   refine AL.valN 17 rfl (by kernel_rfl) rfl rfl rfl (.inl rfl) ?_
   refine AL.valN 18 rfl (by kernel_rfl) rfl rfl rfl (.inl rfl) ?_
   refine AL.valN 19 rfl (by kernel_rfl) rfl rfl rfl (.inl rfl) ?_
   refine AL.valN 20 rfl (by kernel_rfl) rfl rfl rfl (.inl rfl) ?_
   refine AL.valN 21 rfl (by kernel_rfl) rfl rfl rfl (.inl rfl) ?_
   refine AL.valN 22 rfl (by kernel_rfl) rfl rfl rfl (.inl rfl) ?_
   refine AL.valN 23 rfl (by kernel_rfl) rfl rfl rfl (.inl rfl) ?_
   refine AL.valN 24 rfl (by kernel_rfl) rfl rfl rfl (.inl rfl) ?_
   refine AL.valN 25 rfl (by kernel_rfl) rfl rfl rfl (.inl rfl) ?_
   refine AL.valN 26 rfl (by kernel_rfl) rfl rfl rfl (.inl rfl) ?_
   refine aV 27 rfl (fun w hs=>run_pickF rfl)<|aV 28 rfl (fun w hs=>run_assign)<|AL.end (by kernel_rfl) (by exact hK hs (fun p hp=>mem_append_right _ hp)) (by exact hK hs (fun p hp=>mem_append_right _ hp)) ?_
   refine CW.ret ?_
   refine fin_ret1 rfl ?_
   exact⟨rfl,hfin2 hs⟩
end
def putRun (t:AS):List (List UInt8)→Int×AS
 | []=>(0,t)
 | x::l=>if (t.put x).2.1≠0 then ((((t.put x).2.1:Nat):Int),(t.put x).2.2) else putRun (t.put x).2.2 l
theorem putRun_bad{t:AS}{x:List UInt8}{l:List (List UInt8)} (h:(t.put x).2.1≠0):putRun t (x::l)=((((t.put x).2.1:Nat):Int),(t.put x).2.2):=by rw[putRun,if_pos h]
theorem putRun_ok{t:AS}{x:List UInt8}{l:List (List UInt8)} (h:(t.put x).2.1=0):putRun t (x::l)=putRun (t.put x).2.2 l:=by rw[putRun,if_neg (fun hh=>hh h)]
def unpR (s:AS) (bs:List UInt8) (of:List (List UInt8)):List UInt8×Int×AS:=
 if 4194304<bs.length then (zD,2,s) else if (upP s.k bs).1≠0 then (zD,(upP s.k bs).1,s) else if fitB s.k (upP s.k bs).2 of=false then (zD,81,s)
 else (if (putRun s (upP s.k bs).2).1=0 then lastK s.k (upP s.k bs).2 else zD,putRun s (upP s.k bs).2)
section
variable{s:AS}{bs:List UInt8}{of:List (List UInt8)}
theorem unpR_long (h:4194304<bs.length):unpR s bs of=(zD,2,s):=if_pos h
theorem unpR_bad (h:¬4194304<bs.length) (h2:(upP s.k bs).1≠0):unpR s bs of=(zD,(upP s.k bs).1,s):=by rw[unpR,if_neg h,if_pos h2]
theorem unpR_not (h:¬4194304<bs.length) (h2:(upP s.k bs).1=0) (h3:fitB s.k (upP s.k bs).2 of=false):unpR s bs of=(zD,81,s):=by rw[unpR,if_neg h,if_neg (fun hh=>hh h2),if_pos h3]
theorem unpR_go (h:¬4194304<bs.length) (h2:(upP s.k bs).1=0) (h3:fitB s.k (upP s.k bs).2 of=true):unpR s bs of=(if (putRun s (upP s.k bs).2).1=0 then lastK s.k (upP s.k bs).2 else zD,putRun s (upP s.k bs).2):=by
 rw[unpR,if_neg h,if_neg (fun hh=>hh h2),if_neg (by rw[h3];decide)]
end
def GoF (k:Nat) (l gf of:List (List UInt8)) (kk:Nat):Prop:=(digsK k l).Nodup→(runs (fitS k l) rmG [rootS (lastK k l)] ws0).1=0→Goes (partsM (fitS k l) (runs (fitS k l) rmG [rootS (lastK k l)] ws0).2.m) [lastK k l] [] [] gf of kk
theorem goF_some (k:Nat) (hk:k≤32) (l:List (List UInt8)):∃gf of kk,GoF k l gf of kk:=by
 by_cases h:(runs (fitS k l) rmG [rootS (lastK k l)] ws0).1=0
 ·have hm:=runs_met (s:=fitS k l) (rm:=rmG) (d:=lastK k l) (t:=(runs (fitS k l) rmG [rootS (lastK k l)] ws0).2) (frontL_len hk) (by rw[←h])
  have ob:=hm.goes
  obtain⟨gf,of,kk,hG⟩:=ob
  exact⟨gf,of,kk,fun _ _=>hG⟩
 ·exact⟨[],[],0,fun _ h2=>absurd h2 h⟩
section
variable{bp N kk:Nat}{s:AS}{D L:List (Nat×Obj)}{v:Value}{bs:List UInt8}{w0:World}{gf of:List (List UInt8)}
set_option maxHeartbeats 8000000 in
theorem unpack_spec (hR:PRep bp s D L) (ok:s.Ok) (hfew:s.Few N) (hN:N<1000000000) (hv:∀{w:World}{Y:List (Nat×Obj)},Step (List.map (·.1) (L++D)) Y w0 w→Sl w 1 v bs.length (u8s bs)) (hlen:bs.length≤9223372036854775807) (hG:GoF s.k (upP s.k bs).2 gf of kk) (hw:Lives (L++D) w0) :
  CP 42 #[.pointer (some ⟨bp,0,none⟩),v] w0 fun e w'=>∃L' D',e=.returned (.tuple #[.agg (u8s (unpR s bs of).1).toArray,.int .i64 (unpR s bs of).2.1])∧PRep bp (unpR s bs of).2.2 (D'++D) L'∧Step (L.map (·.1)) (L'++D') w0 w':=by
 have hk1:=ok.k1
 have hk2:=ok.k2
 have hs:Step (List.map (·.1) (L++D)) (L++D) w0 w0:=hw
 have hzl:(u8s zD).length=32:=rfl
 have ob:=(hv hs).form
 obtain⟨va,vc,rfl⟩:=ob
 have hbl:=fun{w1:World} (h:Sl w1 1 (.slice va bs.length vc) bs.length (u8s bs)) (h2:bs.length≤4194304)=>blobs_spec w1 hk2 h h2
 have hbad:=fun h=>unpR_bad (s:=s) (bs:=bs) (of:=of) h
 have hnot:=fun h=>unpR_not (s:=s) (bs:=bs) (of:=of) h
 have hgo:=fun h=>unpR_go (s:=s) (bs:=bs) (of:=of) h
 have hupo:=upP_ok (k:=s.k) (bs:=bs)
 have ob:∃up,upP s.k bs=up:=⟨_,rfl⟩
 obtain⟨up,hup⟩:=ob
 simp only[hup] at hbl hbad hnot hgo hupo hG
 refine calls (n:=58) Tryz.func42 rfl rfl rfl ?_
 refine sr<|WL.alloc ty44 rfl hs (fun b4 w hs=>?_)
 refine wA<|wZ ?_
 replace hs:Step (List.map (·.1) (L++D)) ((b4,blk 44 (u8s zD))::(L++D)) w0 w:=hs
 by_cases hlong:4194304<bs.length
 ·rw[unpR_long hlong]
  refine cq<|sr<|wm<|wV (run_lenSl u76 rfl)<|wV (run_bT (run_gtr rfl rfl) (by omega))<|wZ<|CW.cond rfl (fun h=>?_) (fun h=>?_)
  ·refine sr<|wV (run_build rfl (bld_dig _))<|WL.storeAll ty44 rfl rfl ((hzl)) ((Cells1.u8s _)) hs (by rfl) (fun w hs=>?_)
   refine wA<|wZ<|CW.ret ?_
   refine fin_cellTmp rfl rfl (run_loadVarN ty44 hzl hs.a0) ?_
   exact⟨L,[],rfl,hR,Step.fin (M:=[]) hw hs.tail⟩
  ·cases h
 refine cq<|sr<|wm<|wV (run_lenSl u76 rfl)<|wV (run_bF (run_gtr rfl rfl) (by omega))<|wZ<|CW.cond rfl (fun h=>?_) (fun h=>?_)
 ·cases h
 refine ck<|sr<|wm<|wE rfl (run_call en69 rfl rfl) (width_abs hR ok (Lives.mk hs.tail)) ?_
 rintro e w ⟨rfl,hq⟩
 refine⟨_,rfl,?_⟩
 replace hs:=hs.callE hq
 refine wm<|wE rfl (run_call en96 rfl rfl) (hbl (hv hs) (by omega)) ?_
 rintro e w ⟨u,B,Lv,G,rfl,hB,hq⟩
 refine⟨_,rfl,?_⟩
 replace hs:=Step.call0 hs hq
 refine wm<|wx rfl rfl<|wx rfl rfl<|wA<|wA<|wZ ?_
 have ob:∃Z,(Lv++G)++D=Z:=⟨_,rfl⟩
 obtain⟨Z,hZ⟩:=ob
 replace hs:Step (List.map (·.1) (L++D)) ((b4,blk 44 (u8s zD))::(L++Z)) w0 w:=by
  rw[←hZ]
  exact hs.perm (by classical exact perm_iff_count.2 fun x=>by simp only[count_append,count_cons];omega)
 have hend:∀{t:AS}{Lc Dc:List (Nat×Obj)}{w:World},PRep bp t (Dc++Z) Lc→Step (List.map (·.1) (L++D)) (Lc++(Dc++Z)) w0 w→∃L' D',PRep bp t (D'++D) L'∧Step (L.map (·.1)) (L'++D') w0 w:=fun {t Lc Dc w} hP h=>⟨Lc,Dc++(Lv++G),by rw[append_assoc,hZ];exact hP,Step.fin (M:=[]) hw (by show Step (List.map (·.1) (L++D)) (Lc++((Dc++(Lv++G))++D)) w0 w;rw[append_assoc Dc,hZ];exact h)⟩
 replace hbad:=hbad hlong
 replace hnot:=hnot hlong
 replace hgo:=hgo hlong
 have hDZ:∀p∈D,p∈Z:=fun p hp=>hZ▸mem_append_right _ hp
 by_cases he:up.1≠0
 ·rw[hbad he]
  refine cq<|sr<|wm<|wV (run_bT (run_neq rfl rfl) (by exact he))<|wZ<|CW.cond rfl (fun h=>?_) (fun h=>?_)
  ·refine sr<|wV (run_build rfl (bld_dig _))<|wm<|WL.storeAll ty44 rfl rfl ((hzl)) ((Cells1.u8s _)) hs (by rfl) (fun w hs=>?_)
   refine wA<|wZ<|CW.ret ?_
   refine fin_cellTmp rfl rfl (run_loadVarN ty44 hzl hs.a0) ?_
   have ob:=hend (Dc:=[]) (hR.mono hDZ) hs.tail
   obtain⟨L',D',h1,h2⟩:=ob
   exact⟨L',D',rfl,h1,h2⟩
  ·cases h
 have he0:up.1=0:=by simpa using he
 have ob:=hB he0
 obtain⟨hvB,hBo,hBl⟩:=ob
 have ob:=hupo he0
 obtain⟨hne,hl6,hsum,hl1⟩:=ob
 have ob:∃l,up.2=l:=⟨_,rfl⟩
 obtain⟨l,hl⟩:=ob
 rw[hl] at hne hl6 hsum hl1 hnot hgo hG hBl
 have hll:l.length=B.length:=by rw[←hBl,length_map]
 have hB0:0<B.length:=by rw[←hll];exact length_pos_iff.2 hne
 have hft:=fun{w1:World} (h:Lives (Lv++G) w1)=>fits8_spec (v:=u) (B:=B) (k:=s.k) (kk:=kk) (gf:=gf) (of:=of) hk1 hk2 ⟨Lv,hvB,fun p hp=>mem_append_left _ hp⟩ (hBo.mono fun p hp=>mem_append_right _ hp) hB0 (by omega) (by rw[hBl];omega) (by rw[hBl];exact hG) h
 rw[hBl] at hft
 have hLG:∀{A:List (Nat×Obj)}{w:World},Step (List.map (·.1) (L++D)) (A++Z) w0 w→Lives (Lv++G) w:=fun h=>Lives.mk (Step.dropR (L2:=D) (Step.dropL (by rw[hZ];exact h)))
 have hvz:∀{A:List (Nat×Obj)}{w:World},Step (List.map (·.1) (L++D)) (A++Z) w0 w→Sl w 1 u B.length (B.map fun t=>t.1):=fun h=>hvB.slW fun p hp=>(hLG h).has p (mem_append_left _ hp)
 have ob:∃tl,B[B.length - 1]?=some tl:=⟨_,getElem?_eq_getElem (by omega)⟩
 obtain⟨tl,htl⟩:=ob
 have ob:=sl_at1 (c:=fun t:Value×List UInt8=>t.1) (hvz (A:=(b4,blk 44 (u8s zD))::L) hs) htl
 obtain⟨bb,bo,bc,hbe,_⟩:=ob
 subst hbe
 by_cases hfit:fitB s.k l of=false
 ·rw[hnot he0 hfit]
  rw[hfit] at hft
  refine cq<|sr<|wm<|wV (run_bF (run_neq rfl rfl) (by exact he))<|wZ<|CW.cond rfl (fun h=>?_) (fun h=>?_)
  ·cases h
  refine ck<|cq<|sr<|wm<|wE rfl (run_call en69 rfl rfl) (width_abs (hR.mono hDZ) ok (Lives.mk hs.tail)) ?_
  rintro e w ⟨rfl,hq⟩
  refine⟨_,rfl,?_⟩
  replace hs:=hs.callE hq
  refine wm<|wE rfl (run_call en97 rfl rfl) (hft (hLG (A:=_::L) hs)) ?_
  rintro e w ⟨rfl,hq⟩
  refine⟨_,rfl,?_⟩
  replace hs:=hs.callE hq
  refine wV (run_not rfl)<|wZ<|CW.cond rfl (fun h=>?_) (fun h=>?_)
  ·refine sr<|wV (run_build rfl (bld_dig _))<|WL.storeAll ty44 rfl rfl ((hzl)) ((Cells1.u8s _)) hs (by rfl) (fun w hs=>?_)
   refine wA<|wZ<|CW.ret ?_
   refine fin_cellTmp rfl rfl (run_loadVarN ty44 hzl hs.a0) ?_
   have ob:=hend (Dc:=[]) (hR.mono hDZ) hs.tail
   obtain⟨L',D',h1,h2⟩:=ob
   exact⟨L',D',rfl,h1,h2⟩
  ·cases h
 have hfit:fitB s.k l of=true:=by simpa using hfit
 rw[hgo he0 hfit]
 rw[hfit] at hft
 have ob:∃GR,putRun s l=GR:=⟨_,rfl⟩
 obtain⟨GR,hGR⟩:=ob
 rw[hGR]
 refine cq<|sr<|wm<|wV (run_bF (run_neq rfl rfl) (by exact he))<|wZ<|CW.cond rfl (fun h=>?_) (fun h=>?_)
 ·cases h
 refine ck<|cq<|sr<|wm<|wE rfl (run_call en69 rfl rfl) (width_abs (hR.mono hDZ) ok (Lives.mk hs.tail)) ?_
 rintro e w ⟨rfl,hq⟩
 refine⟨_,rfl,?_⟩
 replace hs:=hs.callE hq
 refine wm<|wE rfl (run_call en97 rfl rfl) (hft (hLG (A:=_::L) hs)) ?_
 rintro e w ⟨rfl,hq⟩
 refine⟨_,rfl,?_⟩
 replace hs:=hs.callE hq
 refine wV (run_not rfl)<|wZ<|CW.cond rfl (fun h=>?_) (fun h=>?_)
 ·cases h
 refine ck<|cq<|sr<|wm<|wV (run_lenSl u24 rfl)<|wm<|wZ<|cB<|CW.loop (fun z f w'=>∃(i:Nat) (t:AS) (Lc Dc:List (Nat×Obj)),i≤B.length∧z=B.length - i∧t.Ok∧t.k=s.k∧t.Few (N+i)∧putRun t (l.drop i)=GR∧PRep bp t (Dc++Z) Lc∧Step (List.map (·.1) (L++D)) ((b4,blk 44 (u8s zD))::(Lc++(Dc++Z))) w0 w'∧Holds f [(0,.pointer (some ⟨bp,0,none⟩)),(4,.pointer (some ⟨b4,0,none⟩)),(6,.slice (some ⟨bb,bo,none⟩) B.length bc),(33,.slice (some ⟨bb,bo,none⟩) B.length bc),(34,.int .i64 (B.length:Nat)),(35,.int .i64 (i:Nat))]) (m:=B.length) ?_ ?_
 ·exact⟨0,s,L,[],Nat.zero_le _,rfl,ok,rfl,hfew,hGR,hR.mono hDZ,hs,rfl,rfl,rfl,rfl,rfl,rfl,trivial⟩
 clear hs
 rintro z f w ⟨i,t,Lc,Dc,hil,rfl,oki,hki,fewi,hGi,hP,hs,hf⟩
 have ob:=hf.chain
 obtain⟨g,rfl⟩:=ob
 by_cases hlt:i<B.length
 ·have ob:∃y,B[i]?=some y:=⟨_,getElem?_eq_getElem hlt⟩
  obtain⟨y,hy⟩:=ob
  have ob:=hBo y (mem_of_getElem? hy)
  obtain⟨⟨LD,hvt,hLD⟩,htl1⟩:=ob
  have ob:∃x,y.2=x:=⟨_,rfl⟩
  obtain⟨x,hxe⟩:=ob
  rw[hxe] at hvt htl1
  have hx:l[i]?=some x:=by rw[←hBl,getElem?_map,hy,←hxe];rfl
  have hdrop:l.drop i=x::l.drop (i+1):=by
   have ob:=List.getElem?_eq_some_iff.1 hx
   obtain⟨hlt,rfl⟩:=ob
   exact drop_eq_getElem_cons hlt
  rw[hdrop] at hGi
  have ob:=hvt.form
  obtain⟨ta,tc,hte⟩:=ob
  have hcell:∀{A:List (Nat×Obj)}{w:World},Step (List.map (·.1) (L++D)) (A++Z) w0 w→w.cell? ⟨bb,bo+i*1,none⟩=some (.slice ta x.length tc):=fun h=>by
   have ob:=sl_at1 (c:=fun t:Value×List UInt8=>t.1) (hvz h) hy
   obtain⟨b2,o2,c2,he,hc⟩:=ob
   cases he
   rw[hc,hte]
  have hHt:Held (Dc++Z) (.slice ta x.length tc) x:=⟨LD,hte▸hvt,fun p hp=>mem_append_right _ (by rw[←hZ];exact mem_append_left _ (mem_append_right _ (hLD p hp)))⟩
  have hput:=fun{w1:World} (h:Lives (Lc++(Dc++Z)) w1)=>put_abs (w0:=w1) (y:=x) hP oki fewi (by omega) h (hHt.sl fun p hp=>h.has p (mem_append_right _ hp)) hHt.room (.inr (Own.outside (A:=[]) (L:=Lc) (D:=Dc++Z) h hHt)) (by omega)
  have hp32:=put_32 oki x
  have ok2:=oki.put x
  have few2:=fewi.put x
  have hk3:=put_k t x
  have hbad:=putRun_bad (t:=t) (x:=x) (l:=l.drop (i+1))
  have hgo:=putRun_ok (t:=t) (x:=x) (l:=l.drop (i+1))
  have ob:∃pr,t.put x=pr:=⟨_,rfl⟩
  obtain⟨pr,hpr⟩:=ob
  rw[hpr] at hp32 ok2 few2 hbad hgo hk3
  simp only[hpr] at hput
  have hpl:(u8s pr.1).length=32:=by rw[u8s,length_map,hp32]
  refine sr<|wV (run_bT (run_lss rfl rfl) (by omega))<|wZ<|cq<|CW.cond rfl (fun h=>?_) (fun h=>?_)
  ·refine ck<|cq<|cB<|sr<|wV (run_ixSlN u24 ty76 rfl rfl (by omega))<|wl ty76 rfl (hcell (A:=_::(Lc++Dc)) (show Step _ (_::((Lc++Dc)++Z)) w0 w from by rw[append_assoc];exact hs))<|wA<|wZ<|sr<|wm<|wm<|wE rfl (run_call en36 rfl rfl) (hput (Lives.mk hs.tail)) ?_
   rintro e w ⟨L2,D2,rfl,hP2,hq⟩
   refine⟨_,rfl,?_⟩
   replace hs:=Own.put (A:=[(b4,blk 44 (u8s zD))]) (L:=Lc) hs hq
   refine wm<|wx rfl rfl<|wx rfl rfl<|WL.alloc ty44 rfl hs (fun b10 w hs=>?_)
   refine WL.storeAll ty44 rfl rfl ((hpl)) ((Cells1.u8s _)) hs (by rfl) (fun w hs=>?_)
   refine wA<|wZ ?_
   replace hs:=hs.tail
   by_cases hpe:pr.2.1≠0
   ·rw[hbad hpe] at hGi
    refine sr<|wm<|wV (run_bT (run_neq rfl rfl) (by exact fun h=>hpe (Int.ofNat.inj h)))<|wZ<|CW.cond rfl (fun h=>?_) (fun h=>?_)
    ·refine sr<|wV (run_build rfl (bld_dig _))<|wm<|WL.storeAll ty44 rfl rfl ((hzl)) ((Cells1.u8s _)) hs (by rfl) (fun w hs=>?_)
     refine wA<|wZ<|CW.ret ?_
     refine fin_cellTmp rfl rfl (run_loadVarN ty44 hzl hs.a0) ?_
     have ob:=hend (Dc:=D2++Dc) (by rw[append_assoc];exact hP2) (by rw[append_assoc];exact hs.tail)
     obtain⟨L',D',h1,h2⟩:=ob
     rw[←hGi,if_neg (show ¬(((pr.2.1:Nat):Int)=0) from fun h=>hpe (Int.ofNat.inj h))]
     exact⟨L',D',rfl,h1,h2⟩
    ·cases h
   have hp0:pr.2.1=0:=by simpa using hpe
   rw[hgo hp0] at hGi
   refine sr<|wm<|wV (run_bF (run_neq rfl rfl) (by exact fun h=>h (congrArg Int.ofNat hp0)))<|wZ<|CW.cond rfl (fun h=>?_) (fun h=>?_)
   ·cases h
   refine ck<|cr<|wV (run_add (c:=((i+1:Nat):Int)) rfl rfl (by omega) (by omega))<|wm<|wZ<|(show _∧_ from⟨rfl,_,?_,i+1,pr.2.2,L2,D2++Dc,hlt,rfl,ok2,hk3.trans hki,few2,hGi,?_,?_,rfl,rfl,rfl,rfl,rfl,rfl,trivial⟩)
   ·omega
   ·rw[append_assoc];exact hP2
   ·rw[append_assoc];exact hs
  ·cases h
 ·obtain rfl:i=B.length:=by omega
  rw[←hll,drop_length] at hGi
  obtain rfl:(0,t)=GR:=hGi
  have ob:=hBo tl (mem_of_getElem? htl)
  obtain⟨⟨LD,hvt,hLD⟩,htl1⟩:=ob
  have ob:∃x,tl.2=x:=⟨_,rfl⟩
  obtain⟨x,hxe⟩:=ob
  rw[hxe] at hvt htl1
  have hlx:lastK s.k l=frontL x s.k:=by
   have h1:=last_get (l:=l) (by omega)
   rw[hll,←hBl,getElem?_map,htl] at h1
   rw[lastK,←hxe,←hBl,←Option.some.inj h1]
  have ob:=hvt.form
  obtain⟨ta,tc,hte⟩:=ob
  have hcell:∀{A:List (Nat×Obj)}{w:World},Step (List.map (·.1) (L++D)) (A++Z) w0 w→w.cell? ⟨bb,bo+(B.length - 1)*1,none⟩=some (.slice ta x.length tc):=fun h=>by
   have ob:=sl_at1 (c:=fun t:Value×List UInt8=>t.1) (hvz h) htl
   obtain⟨b2,o2,c2,he,hc⟩:=ob
   cases he
   rw[hc,hte]
  have hHt:Held (Dc++Z) (.slice ta x.length tc) x:=⟨LD,hte▸hvt,fun p hp=>mem_append_right _ (by rw[←hZ];exact mem_append_left _ (mem_append_right _ (hLD p hp)))⟩
  have hdig:=fun{w1:World} (h:Lives (Lc++(Dc++Z)) w1)=>digest_abs (w0:=w1) (y:=x) hP oki h (hHt.sl fun p hp=>h.has p (mem_append_right _ hp)) hHt.room (by omega)
  rw[hki,←hlx] at hdig
  have hd32:(lastK s.k l).length=32:=frontL_len hk2
  have ob:∃d,lastK s.k l=d:=⟨_,rfl⟩
  obtain⟨d,hd⟩:=ob
  rw[hd] at hdig hd32⊢
  have hdl:(u8s d).length=32:=by rw[u8s,length_map,hd32]
  refine sr<|wV (run_bF (run_lss rfl rfl) (by omega))<|wZ<|cq<|CW.cond rfl (fun h=>?_) (fun h=>?_)
  ·cases h
  refine CW.exit<|sr<|wm<|wm<|wm<|wV (run_lenSl u24 rfl)<|wV (run_sub (c:=((B.length - 1:Nat):Int)) rfl rfl (by omega) (by omega))<|wV (run_ixSlN u24 ty76 rfl rfl (by omega))<|wl ty76 rfl (hcell (A:=_::(Lc++Dc)) (show Step _ (_::((Lc++Dc)++Z)) w0 w from by rw[append_assoc];exact hs))<|wE rfl (run_call en91 rfl rfl) (hdig (Lives.mk hs.tail)) ?_
  rintro e w ⟨rfl,hq⟩
  refine⟨_,rfl,?_⟩
  replace hs:=hs.callE hq
  refine WL.storeAll ty44 rfl rfl ((hdl)) ((Cells1.u8s _)) hs (by rfl) (fun w hs=>?_)
  refine wA<|wZ<|CW.ret ?_
  refine fin_cellTmp rfl rfl (run_loadVarN ty44 hdl hs.a0) ?_
  have ob:=hend hP hs.tail
  obtain⟨L',D',h1,h2⟩:=ob
  exact⟨L',D',rfl,h1,h2⟩
end
def upE (k:Nat) (bs:List UInt8):Int:=if 4194304<bs.length then 2 else (upP k bs).1
def RdRes (k:Nat) (bs:List UInt8) (w0:World) (e:Ending) (w':World):Prop:=∃u B Lv G,e=.returned (.tuple #[u,.int .i64 (upE k bs)])∧(upE k bs=0→OwnSl 76 1 u B.length (cellsB B) Lv∧BOk G B∧B.map (·.2)=(upP k bs).2)∧Step [] (Lv++G) w0 w'
theorem RdRes.err{k:Nat}{bs:List UInt8}{w0 w':World}{L:List (Nat×Obj)}{er:Int} (he:upE k bs=er) (hne:er≠0) (hs:Step [] L w0 w'):RdRes k bs w0 (.returned (.tuple #[.slice none 0 0,.int .i64 er])) w':=
 ⟨_,[],[],[],by rw[he],fun h=>absurd (he.symm.trans h) hne,hs.clear⟩
theorem RdRes.ok{k:Nat}{bs:List UInt8}{w0 w':World}{u:Value}{B:BL}{Lv G:List (Nat×Obj)} (he:upE k bs=0) (hv:OwnSl 76 1 u B.length (cellsB B) Lv) (hB:BOk G B) (hl:B.map (·.2)=(upP k bs).2) (hs:Step [] (Lv++G) w0 w'):RdRes k bs w0 (.returned (.tuple #[u,.int .i64 0])) w':=
 ⟨u,B,Lv,G,by rw[he],fun _=>⟨hv,hB,hl⟩,hs⟩
theorem Step.u8{S:List Nat}{n p x:Nat×Obj}{Lx Lv LD:List (Nat×Obj)}{w w':World} (h:Step S (n::p::(Lx++(x::(Lv++LD)))) w w'):Step S (n::p::x::(Lv++(LD++Lx))) w w':=h.perm (by classical exact perm_iff_count.2 fun x=>by simp only[count_append,count_cons];omega)
theorem Step.u9{S:List Nat}{n p x y:Nat×Obj}{Lv X:List (Nat×Obj)}{w w':World} (h:Step S (n::p::x::y::(Lv++X)) w w'):Step S (Lv++(n::p::x::y::X)) w w':=h.perm (by classical exact perm_iff_count.2 fun x=>by simp only[count_append,count_cons];omega)
theorem Step.u10{S:List Nat}{n p x y:Nat×Obj}{Lv X:List (Nat×Obj)}{w w':World} (h:Step S (Lv++(n::p::x::y::X)) w w'):Step S (x::y::(Lv++X)) w w':=by
 have h2:Step S (n::p::x::y::(Lv++X)) w w':=h.perm (by classical exact perm_iff_count.2 fun x=>by simp only[count_append,count_cons];omega)
 exact h2.tail.tail
set_option maxHeartbeats 4000000 in
theorem readBR_spec{k:Nat}{bs:List UInt8}{v:Value} (w0:World) (hk:k≤32) (hv:Sl w0 1 v bs.length (u8s bs)) (hroom:Room v) (hlen:bs.length≤9223372036854775807) :
  CP 45 #[.int .i64 (k:Nat),v] w0 (RdRes k bs w0):=by
 have hs:Step [] [] w0 w0:=Step.refl w0
 have ob:=hv.form
 obtain⟨a,c,rfl⟩:=ob
 by_cases hbig:4194304<bs.length
 ·have he:upE k bs=2:=if_pos hbig
  refine calls (n:=97) Tryz.func45 rfl rfl rfl ?_
  refine sr<|wA<|wA<|wZ<|cq<|sr<|wm<|wV (run_lenSl u76 rfl)<|wV (run_bT (run_gtr rfl rfl) (by omega))<|wZ<|cT rfl<|cq ?_
  refine cr<|wA<|wA<|wZ<|CW.ret ?_
  refine fin_ret2 rfl ?_
  exact .err he (by decide) hs
 ·have he:upE k bs=(upP k bs).1:=if_neg hbig
  have herr:∀{er:Int},pkP k bs=.error er→upE k bs=er:=fun h=>by rw[he];unfold upP;rw[h]
  refine calls (n:=97) Tryz.func45 rfl rfl rfl ?_
  refine sr<|wA<|wA<|wZ<|cq<|sr<|wm<|wV (run_lenSl u76 rfl)<|wV (run_bF (run_gtr rfl rfl) (by omega))<|wZ<|cF rfl<|ck<|cq ?_
  refine cr<|wm<|wV (run_build rfl (bld_rr _ _ _ _))<|WL.box (cs:=[.slice a bs.length c,.int .i64 0,.int .i64 0]) rfl rfl rfl hs (fun b18 w hs=>?_)
  refine wA<|wZ ?_
  generalize b18=b at *
  have hout:bs=[]∨Outside (.slice a bs.length c) [b]:=(Outside.newer hv hs (fun k hk=>by simpa using hk)).imp (fun e=>by simpa[u8s] using e) id
  replace hs:Step [] [RRB b (.slice a bs.length c) 0 0] w0 w:=hs
  have rd:∀{w:World}{p:Nat}{L:List (Nat×Obj)},Step [] (RRB b (.slice a bs.length c) p 0::L) w0 w→RrOk w b bs (.slice a bs.length c) p:=fun h=>⟨Step.own (L1:=[_]) h,hv.step0 h.clear,hout,hroom,by omega⟩
  cases h1:numP bs 0 with
  | error er=>
   have hne:er≠0:=by rcases numP_err h1 with h | h <;> omega
   refine sr<|wm<|wE rfl (run_call en99 rfl rfl) (readNum_at h1 _ (rd hs) (by omega)) ?_
   rintro e w ⟨rfl,hq⟩
   refine⟨_,rfl,?_⟩
   replace hs:=Step.call (L1:=[_]) hs hq
   refine WL.alloc ty188 rfl hs (fun b7 w hs=>?_)
   refine WL.storeAll ty188 rfl rfl ((rfl)) (itemV_c1 rfl) hs (by rfl) (fun w hs=>?_)
   refine wZ<|cq<|sr<|wm<|wn rfl<|wF 2 u186 rfl ty3 rfl<|wl ty3 rfl (hs.c1 rfl)<|wV (run_bT (run_neq rfl rfl) (by exact hne))<|wZ<|cT rfl<|cq<|CW.quiet mixedP (by kernel_rfl) hs ?_
   refine qm<|qn rfl<|qF 2 u186 rfl ty3 rfl<|qV (fun w hs=>run_load1 ty3 rfl (hs.c1 rfl))<|qV (fun w hs=>run_assign)<|qV (fun w hs=>run_assign)<|QL.nil (fun w hs=>?_)
   refine CW.ret ?_
   refine fin_ret2 rfl ?_
   exact .err (herr (by unfold pkP;rw[h1])) hne hs
  | ok tp=>
   obtain⟨t,p1⟩:=tp
   have hb1:=numP_ok h1
   refine sr<|wm<|wE rfl (run_call en99 rfl rfl) (readNum_at h1 _ (rd hs) (by omega)) ?_
   rintro e w ⟨rfl,hq⟩
   refine⟨_,rfl,?_⟩
   replace hs:=Step.call (L1:=[_]) hs hq
   refine WL.alloc ty188 rfl hs (fun b7 w hs=>?_)
   refine WL.storeAll ty188 rfl rfl ((rfl)) (itemV_c1 rfl) hs (by rfl) (fun w hs=>?_)
   refine wZ<|cq<|sr<|wm<|wn rfl<|wF 2 u186 rfl ty3 rfl<|wl ty3 rfl (hs.c1 rfl)<|wV (run_bF (run_neq rfl rfl) (by decide))<|wZ ?_
   by_cases ht:t=5
   ·subst ht
    refine cF rfl<|ck<|cq<|sr<|wF 1 u188 rfl ty3 rfl<|wl ty3 rfl (hs.c0 rfl)<|wV (run_bF (run_neq rfl rfl) (by decide))<|wZ ?_
    replace hs:Step [] [RRB b (.slice a bs.length c) p1 0] w0 w:=hs.tail
    cases h2:numP bs p1 with
    | error er=>
     have hne:er≠0:=by rcases numP_err h2 with h | h <;> omega
     refine cF rfl<|ck<|sr<|wm<|wE rfl (run_call en99 rfl rfl) (readNum_at h2 _ (rd hs) hb1.1) ?_
     rintro e w ⟨rfl,hq⟩
     refine⟨_,rfl,?_⟩
     replace hs:=Step.call (L1:=[_]) hs hq
     refine WL.alloc ty188 rfl hs (fun b8 w hs=>?_)
     refine WL.storeAll ty188 rfl rfl ((rfl)) (itemV_c1 rfl) hs (by rfl) (fun w hs=>?_)
     refine wZ<|cq<|sr<|wm<|wn rfl<|wF 2 u186 rfl ty3 rfl<|wl ty3 rfl (hs.c1 rfl)<|wV (run_bT (run_neq rfl rfl) (by exact hne))<|wZ<|cT rfl<|cq<|CW.quiet mixedP (by kernel_rfl) hs ?_
     refine qm<|qn rfl<|qF 2 u186 rfl ty3 rfl<|qV (fun w hs=>run_load1 ty3 rfl (hs.c1 rfl))<|qV (fun w hs=>run_assign)<|qV (fun w hs=>run_assign)<|QL.nil (fun w hs=>?_)
     refine CW.ret ?_
     refine fin_ret2 rfl ?_
     exact .err (herr (by unfold pkP;rw[h1];simp[h2])) hne hs
    | ok up=>
     obtain⟨u,p2⟩:=up
     have hb2:=numP_ok h2
     refine cF rfl<|ck<|sr<|wm<|wE rfl (run_call en99 rfl rfl) (readNum_at h2 _ (rd hs) hb1.1) ?_
     rintro e w ⟨rfl,hq⟩
     refine⟨_,rfl,?_⟩
     replace hs:=Step.call (L1:=[_]) hs hq
     refine WL.alloc ty188 rfl hs (fun b8 w hs=>?_)
     refine WL.storeAll ty188 rfl rfl ((rfl)) (itemV_c1 rfl) hs (by rfl) (fun w hs=>?_)
     refine wZ<|cq<|sr<|wm<|wn rfl<|wF 2 u186 rfl ty3 rfl<|wl ty3 rfl (hs.c1 rfl)<|wV (run_bF (run_neq rfl rfl) (by decide))<|wZ ?_
     by_cases hu:u=k
     ·refine cF rfl<|ck<|cq<|sr<|wF 1 u188 rfl ty3 rfl<|wl ty3 rfl (hs.c0 rfl)<|wm<|wV (run_bF (run_neq rfl rfl) (by omega))<|wZ ?_
      subst hu
      replace hs:Step [] [RRB b (.slice a bs.length c) p2 0] w0 w:=hs.tail
      cases h3:numP bs p2 with
      | error er=>
       have hne:er≠0:=by rcases numP_err h3 with h | h <;> omega
       refine cF rfl<|ck<|sr<|wm<|wE rfl (run_call en99 rfl rfl) (readNum_at h3 _ (rd hs) hb2.1) ?_
       rintro e w ⟨rfl,hq⟩
       refine⟨_,rfl,?_⟩
       replace hs:=Step.call (L1:=[_]) hs hq
       refine WL.alloc ty188 rfl hs (fun b9 w hs=>?_)
       refine WL.storeAll ty188 rfl rfl ((rfl)) (itemV_c1 rfl) hs (by rfl) (fun w hs=>?_)
       refine wZ<|cq<|sr<|wm<|wn rfl<|wF 2 u186 rfl ty3 rfl<|wl ty3 rfl (hs.c1 rfl)<|wV (run_bT (run_neq rfl rfl) (by exact hne))<|wZ<|cT rfl<|cq<|CW.quiet mixedP (by kernel_rfl) hs ?_
       refine qm<|qn rfl<|qF 2 u186 rfl ty3 rfl<|qV (fun w hs=>run_load1 ty3 rfl (hs.c1 rfl))<|qV (fun w hs=>run_assign)<|qV (fun w hs=>run_assign)<|QL.nil (fun w hs=>?_)
       refine CW.ret ?_
       refine fin_ret2 rfl ?_
       exact .err (herr (by unfold pkP;rw[h1];simp[h2,h3])) hne hs
      | ok nq=>
       obtain⟨n,q0⟩:=nq
       have hb3:=numP_ok h3
       refine cF rfl<|ck<|sr<|wm<|wE rfl (run_call en99 rfl rfl) (readNum_at h3 _ (rd hs) hb2.1) ?_
       rintro e w ⟨rfl,hq⟩
       refine⟨_,rfl,?_⟩
       replace hs:=Step.call (L1:=[_]) hs hq
       refine WL.alloc ty188 rfl hs (fun b9 w hs=>?_)
       refine WL.storeAll ty188 rfl rfl ((rfl)) (itemV_c1 rfl) hs (by rfl) (fun w hs=>?_)
       refine wZ<|cq<|sr<|wm<|wn rfl<|wF 2 u186 rfl ty3 rfl<|wl ty3 rfl (hs.c1 rfl)<|wV (run_bF (run_neq rfl rfl) (by decide))<|wZ ?_
       by_cases hn:n=0∨65536<n
       ·have hp:pkP u bs=.error 81:=by unfold pkP;rw[h1];simp[h2,h3,hn]
        rcases hn with rfl | hn
        ·refine cF rfl<|ck<|cq<|sr<|wF 1 u188 rfl ty3 rfl<|wl ty3 rfl (hs.c0 rfl)<|wV (run_bT (run_lss rfl rfl) (by decide))<|wm<|wz<|wz<|wz<|wV (run_pickT rfl)<|wZ ?_
         refine cT rfl<|sr<|wA<|wA<|wZ<|CW.ret ?_
         refine fin_ret2 rfl ?_
         exact .err (herr hp) (by decide) hs
        ·refine cF rfl<|ck<|cq<|sr<|wF 1 u188 rfl ty3 rfl<|wl ty3 rfl (hs.c0 rfl)<|wV (run_bF (run_lss rfl rfl) (by show ¬((n:Int)<1);omega))<|wm<|wy<|wF 1 u188 rfl ty3 rfl<|wy<|wl ty3 rfl (hs.c0 rfl)<|wy<|wV (run_bT (run_gtr rfl rfl) (by show((n:Int) > 65536);omega))<|wV (run_pickF rfl)<|wZ ?_
         refine cT rfl<|sr<|wA<|wA<|wZ<|CW.ret ?_
         refine fin_ret2 rfl ?_
         exact .err (herr hp) (by decide) hs
       ·have hp:pkP u bs=blbsP bs n q0:=by unfold pkP;rw[h1];simp[h2,h3,hn]
        have hn1:¬((n:Int)<1):=by omega
        have hn2:¬((n:Int) > 65536):=by omega
        refine cF rfl<|ck<|cq<|sr<|wF 1 u188 rfl ty3 rfl<|wl ty3 rfl (hs.c0 rfl)<|wV (run_bF (run_lss rfl rfl) (by exact hn1))<|wm<|wy<|wF 1 u188 rfl ty3 rfl<|wy<|wl ty3 rfl (hs.c0 rfl)<|wy<|wV (run_bF (run_gtr rfl rfl) (by exact hn2))<|wV (run_pickF rfl)<|wZ ?_
        refine cF rfl<|ck<|sr<|wA<|wZ<|cq<|sr<|wA<|wZ ?_
        replace hs:Step [] (RRB b (.slice a bs.length c) q0 0::(b9,blk 188 (itemV 1 n (.slice none 0 0)))::([]++[])) w0 w:=hs.swap
        refine cB<|CW.loop (fun zz f w'=>∃(i q:Nat) (B:BL) (v:Value) (Lv G:List (Nat×Obj)),i≤n∧zz=n - i∧q≤bs.length∧B.length=i∧preB (B.map (·.2)) (blbsP bs (n - i) q)=blbsP bs n q0∧BOk G B∧OwnSl 76 1 v B.length (cellsB B) Lv∧Step [] (RRB b (.slice a bs.length c) q 0::(b9,blk 188 (itemV 1 n (.slice none 0 0)))::(Lv++G)) w0 w'∧Holds f [(6,.pointer (some ⟨b,0,none⟩)),(9,.pointer (some ⟨b9,0,none⟩)),(10,v),(11,.int .i64 (i:Nat))]) (m:=n) ?_ ?_
        ·exact⟨0,q0,[],_,[],[],Nat.zero_le _,rfl,hb3.1,rfl,preB_nil _,(fun t ht=>by cases ht),OwnSl.nil _ _,hs,rfl,rfl,rfl,rfl,trivial⟩
        clear hs
        rintro zz f w ⟨i,q,B,v,Lv,G,hi,rfl,hqb,hBi,hpre,hBo,hvB,hs,hf⟩
        have ob:=hvB.form
        obtain⟨va,vc,rfl⟩:=ob
        have ob:=hf.chain
        obtain⟨g,rfl⟩:=ob
        have hnb:n≤65536:=by omega
        by_cases hlt:i<n
        ·refine cq<|sr<|wm<|wF 1 u188 rfl ty3 rfl<|wl ty3 rfl (hs.c1 rfl)<|wV (run_bT (run_lss rfl rfl) (by omega))<|wZ<|CW.cond rfl (fun h=>?_) (fun h=>?_)
         ·rw[show n - i=(n - (i+1))+1 by omega] at hpre
          cases h4:bytesP bs q with
          | error er=>
           have hne:er≠0:=by rcases bytesP_err h4 with h | h <;> omega
           rw[blbsP_stop _ h4] at hpre
           refine ck<|cq<|cB<|sr<|wm<|wE rfl (run_call en99 rfl rfl) (readBytes_at h4 (.inr rfl) _ (rd hs) hqb) ?_
           rintro e w ⟨rfl,hq⟩
           refine⟨_,rfl,?_⟩
           replace hs:=Step.call (L1:=[_]) hs hq
           refine WL.alloc ty188 rfl hs (fun b12 w hs=>?_)
           refine WL.storeAll ty188 rfl rfl ((rfl)) (itemV_c1 rfl) hs (by rfl) (fun w hs=>?_)
           refine wZ<|cq<|sr<|wm<|wn rfl<|wF 2 u186 rfl ty3 rfl<|wl ty3 rfl (hs.c1 rfl)<|wV (run_bT (run_neq rfl rfl) (by exact hne))<|wZ<|CW.cond rfl (fun h=>?_) (fun h=>?_)
           ·refine cq<|CW.quiet mixedP (by kernel_rfl) hs ?_
            refine qm<|qn rfl<|qF 2 u186 rfl ty3 rfl<|qV (fun w hs=>run_load1 ty3 rfl (hs.c1 rfl))<|qV (fun w hs=>run_assign)<|qV (fun w hs=>run_assign)<|QL.nil (fun w hs=>?_)
            refine CW.ret ?_
            refine fin_ret2 rfl ?_
            exact .err (herr (hp.trans hpre.symm)) hne hs
           ·cases h
          | ok xq=>
           obtain⟨x,q2⟩:=xq
           have hb4:=bytesP_ok h4
           refine ck<|cq<|cB<|sr<|wm<|wE rfl (run_call en99 rfl rfl) (readBytes_at h4 (.inr rfl) _ (rd hs) hqb) ?_
           rintro e w ⟨v12,Lx,rfl,hvx,hq⟩
           refine⟨_,rfl,?_⟩
           replace hs:=Step.call (L1:=[_]) hs hq
           have ob:=hvx.form
           obtain⟨xa,xc,rfl⟩:=ob
           refine WL.alloc ty188 rfl hs (fun b12 w hs=>?_)
           refine WL.storeAll ty188 rfl rfl ((rfl)) (itemV_c1 rfl) hs (by rfl) (fun w hs=>?_)
           refine wZ ?_
           replace hs:=Step.u8 hs
           refine cq<|sr<|wm<|wn rfl<|wF 2 u186 rfl ty3 rfl<|wl ty3 rfl (hs.c1 rfl)<|wV (run_bF (run_neq rfl rfl) (by decide))<|wZ<|CW.cond rfl (fun h=>?_) (fun h=>?_)
           ·cases h
           by_cases hlong:1048576<x.length
           ·rw[blbsP_long _ h4 hlong] at hpre
            refine ck<|cq<|sr<|wF 2 u188 rfl ty76 rfl<|wl ty76 rfl (hs.c0 rfl)<|wV (run_lenSl u76 rfl)<|wV (run_bT (run_gtr rfl rfl) (by show((x.length:Int) > 1048576);omega))<|wZ<|CW.cond rfl (fun h=>?_) (fun h=>?_)
            ·refine sr<|wA<|wA<|wZ<|CW.ret ?_
             refine fin_ret2 rfl ?_
             exact .err (herr (hp.trans hpre.symm)) (by decide) hs
            ·cases h
           ·rw[blbsP_step _ h4 hlong] at hpre
            refine ck<|cq<|sr<|wF 2 u188 rfl ty76 rfl<|wl ty76 rfl (hs.c0 rfl)<|wV (run_lenSl u76 rfl)<|wV (run_bF (run_gtr rfl rfl) (by show ¬((x.length:Int) > 1048576);omega))<|wZ<|CW.cond rfl (fun h=>?_) (fun h=>?_)
            ·cases h
            refine ck<|cr<|wm<|wF 2 u188 rfl ty76 rfl<|wl ty76 rfl (hs.c0 rfl)<|WL.buildSlice (cs:=[.slice xa x.length xc]) u24 ty76 rfl (by decide) rfl (filled_s _ _ rfl) rfl hs (fun b91 w hs=>?_)
            have hsl91:Sl w 1 (.slice (some ⟨b91,0,none⟩) 1 1) 1 (cellsB [(.slice xa x.length xc,x)]):=.own1 hs rfl
            replace hs:=Step.u9 hs
            refine WL.append u24 u24 ty76 rfl (by decide) rfl rfl (hvB) (hs) (hsl91) (Cells1.of_all rfl) (by omega) rfl (fun v92 Lv92 w hv92 hs=>?_)
            refine wA<|wZ ?_
            replace hs:=Step.u10 hs
            have hv2:OwnSl 76 1 v92 (B++[(Value.slice xa x.length xc,x)]).length (cellsB (B++[(Value.slice xa x.length xc,x)])) Lv92:=by
             rw[length_append,cellsB_app]
             exact hv92
            refine cr<|wm<|wV (run_add (c:=((i+1:Nat):Int)) rfl rfl (by omega) (by omega))<|wA<|wZ<|(show _∧_ from⟨rfl,_,?_,i+1,q2,B++[(.slice xa x.length xc,x)],_,Lv92,G++Lx,hlt,rfl,hb4.1,?_,?_,?_,hv2,hs,rfl,rfl,rfl,rfl,trivial⟩)
            ·omega
            ·rw[length_append,hBi];rfl
            ·rw[map_append];exact hpre
            ·intro t ht
             rcases mem_append.1 ht with ht | ht
             ·exact(hBo.mono fun p hp=>mem_append_left _ hp) t ht
             ·rw[mem_singleton.1 ht]
              exact⟨⟨Lx,hvx,fun p hp=>mem_append_right _ hp⟩,by show x.length≤_;omega⟩
         ·cases h
        ·obtain rfl:i=n:=by omega
         rw[Nat.sub_self,blbsP] at hpre
         have hpk:pkP u bs=.ok (B.map (·.2),q):=by
          rw[hp,←hpre];simp[preB]
         refine cq<|sr<|wm<|wF 1 u188 rfl ty3 rfl<|wl ty3 rfl (hs.c1 rfl)<|wV (run_bF (run_lss rfl rfl) (by omega))<|wZ<|CW.cond rfl (fun h=>?_) (fun h=>?_)
         ·cases h
         by_cases hq0:q=bs.length
         ·have hup:upP u bs=(0,B.map (·.2)):=by
           unfold upP;rw[hpk];simp[hq0]
          refine CW.exit<|cq<|sr<|wm<|wE rfl (run_call en100 rfl rfl) (leftR_at _ (rd hs) hqb) ?_
          rintro e w ⟨rfl,hq⟩
          refine⟨_,rfl,?_⟩
          replace hs:=Step.call (L1:=[_]) hs hq
          refine wV (run_bF (run_gtr rfl rfl) (by omega))<|wZ<|CW.cond rfl (fun h=>?_) (fun h=>?_)
          ·cases h
          refine ck<|sr<|wm<|wA<|wA<|wZ<|CW.ret ?_
          refine fin_ret2 rfl ?_
          have hue:upE u bs=0:=by rw[he,hup]
          exact RdRes.ok hue hvB hBo (by rw[hup]) hs.tail.tail
         ·have hup:upP u bs=(13,[]):=by
           unfold upP;rw[hpk];exact if_pos (by omega)
          refine CW.exit<|cq<|sr<|wm<|wE rfl (run_call en100 rfl rfl) (leftR_at _ (rd hs) hqb) ?_
          rintro e w ⟨rfl,hq⟩
          refine⟨_,rfl,?_⟩
          replace hs:=Step.call (L1:=[_]) hs hq
          refine wV (run_bT (run_gtr rfl rfl) (by omega))<|wZ<|CW.cond rfl (fun h=>?_) (fun h=>?_)
          ·refine sr<|wA<|wA<|wZ<|CW.ret ?_
           refine fin_ret2 rfl ?_
           exact .err (by rw[he,hup]) (by decide) hs
          ·cases h
     ·refine cF rfl<|ck<|cq<|sr<|wF 1 u188 rfl ty3 rfl<|wl ty3 rfl (hs.c0 rfl)<|wm<|wV (run_bT (run_neq rfl rfl) (by exact fun h=>hu (Int.ofNat.inj h)))<|wZ<|cT rfl<|sr<|wA<|wA<|wZ ?_
      refine CW.ret ?_
      refine fin_ret2 rfl ?_
      exact .err (herr (by unfold pkP;rw[h1];simp[h2,hu])) (by decide) hs
   ·refine cF rfl<|ck<|cq<|sr<|wF 1 u188 rfl ty3 rfl<|wl ty3 rfl (hs.c0 rfl)<|wV (run_bT (run_neq rfl rfl) (by exact fun h=>ht (Int.ofNat.inj h)))<|wZ<|cT rfl<|sr<|wA<|wA<|wZ ?_
    refine CW.ret ?_
    refine fin_ret2 rfl ?_
    exact .err (herr (by unfold pkP;rw[h1];simp[ht])) (by decide) hs
end Go.Gx
