/- The document's going behind the parts: to. The document's Behind: walked. A directory's parts are few. No program in sight. Copying, plain: what is laid in another Store, blob by blob. No program in sight. The program's Copy: walked, for any two Stores, or one. The document's Copy: walked, for any t -/
import Derived.Test.YtplmnkogkfhaiaaGreatL10
import Derived.Test.YtplmnkogkfhaiaaGreatL1
set_option linter.unusedVariables false
set_option linter.unusedSimpArgs false
set_option maxRecDepth 100000
namespace Go.Gx
open Go.Proofs List
attribute [local irreducible] shaL cutD frontL
theorem Goes.split{P:List UInt8→List (List UInt8)}{x:List UInt8}{ds g o g' o':List (List UInt8)}{k:Nat} (h:Goes P (x::ds) g o g' o' k):∃g2 o2 k1 k2,Goes P [x] g o g2 o2 k1∧Goes P ds g2 o2 g' o' k2∧k1≤k∧k2≤k:=by
 cases h with
 | skip hx h=>exact⟨g,o,1,_,.skip hx (.nil _ _),h,by omega,by omega⟩
 | go hx h1 h2=>exact⟨_,_,_,_,.go hx h1 (.nil _ _),h2,by omega,by omega⟩
theorem Goes.len{P:List UInt8→List (List UInt8)}{ds g o g' o':List (List UInt8)}{k:Nat} (h:Goes P ds g o g' o' k) (j:Nat) (hl:o.length+j≤g.length):o'.length+j≤g'.length:=by
 have ob:=h.ext
 obtain⟨n,t,rfl,rfl,hp⟩:=ob
 have:=hp.length_eq
 rw[length_append,length_append]
 omega
section
variable{S:List Nat}{a b q:Nat×Obj}{Lg Lo Lu A X B:List (Nat×Obj)}{w w':World}
theorem Step.fin0{L D L1:List (Nat×Obj)}{w0 w:World} (hw:Lives (L++D) w0) (h:Step ((L++D).map (·.1)) (L1++D) w0 w):Step (L.map (·.1)) L1 w0 w:=by
 have:=Step.fin (M:=[]) (L1:=L1) (D1:=[]) hw h
 simpa using this
theorem Step.tA (h:Step S (a::((b::(Lg++Lo))++B)) w w'):Step S (a::b::(Lg++(Lo++B))) w w':=by
 have e:(b::(Lg++Lo))++B=b::(Lg++(Lo++B)):=by simp[append_assoc]
 rw[e] at h;exact h
theorem Step.tC (h:Step S ((a::Lu)++((b::(Lg++Lo))++B)) w w'):Step S (a::b::(Lo++(Lg++(Lu++B)))) w w':=h.perm (by classical exact perm_iff_count.2 fun x=>by simp only[count_append,count_cons];omega)
theorem Step.tE (h:Step S (Lu++(b::a::(Lg++(Lo++B)))) w w'):Step S ((a::Lu)++((b::(Lg++Lo))++B)) w w':=h.perm (by classical exact perm_iff_count.2 fun x=>by simp only[count_append,count_cons];omega)
theorem Step.tF (h:Step S (b::a::(Lo++(Lg++(Lu++B)))) w w'):Step S ((b::(Lg++Lo))++B) w w':=Step.dropL (L1:=a::Lu) (h.perm (L':=(a::Lu)++((b::(Lg++Lo))++B)) (by classical exact perm_iff_count.2 fun x=>by simp only[count_append,count_cons];omega))
theorem Step.lvB (h:Step S (b::a::(Lg++(Lo++B))) w w'):Lives B w':=Lives.of (L2:=b::a::(Lg++Lo)) (h.perm (by classical exact perm_iff_count.2 fun x=>by simp only[count_append,count_cons];omega))
end
def GRep (bG br:Nat) (vL:Value) (g o:List (List UInt8)) (W:List (Nat×Obj)):Prop:=
 ∃vg Lg vo Lo,W=(bG,blk 225 [.pointer (some ⟨br,0,none⟩),vL,vg,vo])::(Lg++Lo)∧OwnSl 44 32 vg g.length (digsL g) Lg∧OwnSl 44 32 vo o.length (digsL o) Lo
section
variable{br bG:Nat}{s:AS}{D R LvL:List (Nat×Obj)}{r:List UInt8}{m:List (List UInt8×Bool)}{vL:Value}
set_option maxHeartbeats 16000000 in
theorem to_spec (hR:RRep br s D R) (ok:s.Ok) (hM:Met s r m) (hL:OwnSl 137 33 vL m.length (rowsSt m) LvL) (hLD:∀p∈LvL,p∈D) (hm:m.length≤65536) (h32m:∀p∈m,p.1.length=32) (hpl:∀d,(partsM s m d).length<1000000000) :
  ∀(k:Nat){d:List UInt8}{g o g' o':List (List UInt8)}{W:List (Nat×Obj)}{w0:World},Goes (partsM s m) [d] g o g' o' k→d∈ordM m→g.Nodup→(∀x∈g,x∈ordM m)→o.length≤g.length→GRep bG br vL g o W→Lives (W++(R++D)) w0→
  CP 120 #[.pointer (some ⟨bG,0,none⟩),.agg (u8s d).toArray] w0 fun e w'=>∃W',e=.returned (.tuple #[])∧GRep bG br vL g' o' W'∧Step (W.map (·.1)) W' w0 w':=by
 intro k
 induction k using Nat.strongRecOn with
 | ind k ih=>
 intro d g o g' o' W w0 hG hdU hnd hgU hol hW hw
 have hw0:=hw
 have hd32:=hM.len d hdU
 have hdl:(u8s d).length=32:=by rw[u8s,length_map,hd32]
 have hgl:=nodup_len hnd hgU
 have hom:=ordM_len m
 have hW0:=hW
 obtain⟨vg,Lg,vo,Lo,hWe,hvg,hvo⟩:=hW
 subst hWe
 have ob:∃B,R++D=B:=⟨_,rfl⟩
 obtain⟨B,hB⟩:=ob
 rw[hB] at hw
 have hs:Step (List.map (·.1) (((bG,blk 225 [.pointer (some ⟨br,0,none⟩),vL,vg,vo])::(Lg++Lo))++B)) (((bG,blk 225 [.pointer (some ⟨br,0,none⟩),vL,vg,vo])::(Lg++Lo))++B) w0 w0:=hw
 have ob:∃S,List.map (·.1) (((bG,blk 225 [.pointer (some ⟨br,0,none⟩),vL,vg,vo])::(Lg++Lo))++B)=S:=⟨_,rfl⟩
 obtain⟨S,hS⟩:=ob
 rw[hS] at hs
 have ob:=hvg.form
 obtain⟨ga,gc,rfl⟩:=ob
 have ob:=hL.form
 obtain⟨la,lc,rfl⟩:=ob
 have hfin:∀{W':List (Nat×Obj)}{w:World},Step S (W'++B) w0 w→Step (List.map (·.1) ((bG,blk 225 [.pointer (some ⟨br,0,none⟩),.slice la m.length lc,.slice ga g.length gc,vo])::(Lg++Lo))) W' w0 w:=fun h=>Step.fin0 hw (by rw[hS];exact h)
 have hhas:∀{w:World},Step S ((bG,blk 225 [.pointer (some ⟨br,0,none⟩),.slice la m.length lc,.slice ga g.length gc,vo])::(Lg++(Lo++B))) w0 w→CP 66 #[.slice ga g.length gc,.agg (u8s d).toArray] w (Ret0 (.bool (decide (d∈g))) w):=fun h=>hasR_spec (Dgs.own hvg (fun p hp=>h.has p (by simp[hp])) (fun x hx=>hM.len x (hgU x hx)) (by omega)) hd32
 have hDB:∀p∈D,p∈B:=fun p hp=>hB▸mem_append_right _ hp
 refine calls (n:=54) Tryz.func120 rfl rfl rfl ?_
 refine sr<|WL.box (cs:=u8s d) rfl rfl rfl hs (fun b3 w hs=>?_)
 refine wZ ?_
 replace hs:=Step.tA hs
 by_cases hdg:d∈g
 ·have hr:g'=g∧o'=o:=by
   cases hG with
   | skip _ h=>cases h;exact⟨rfl,rfl⟩
   | go h _ _=>exact absurd hdg h
  rw[decide_eq_true hdg] at hhas
  refine cq<|cq<|CW.quiet mixedP (by kernel_rfl) hs ?_
  refine qm<|qn rfl<|qF 2 u225 rfl ty35 rfl<|qV (fun w hs=>run_load1 ty35 rfl (hs.c1 (v:=.slice ga g.length gc) rfl))<|qV (fun w hs=>run_loadN ty44 rfl hdl hs.a0)<|QL.enter rfl (fun w=>run_call en66 rfl rfl) (fun w hs=>hhas hs.tail) ?_
  refine QL.nil (fun w hs=>?_)
  refine CW.cond rfl (fun h=>?_) (fun h=>?_)
  ·skip
   refine CW.ret ?_
   refine fin_ret0 rfl ?_
   exact⟨_,rfl,by rw[hr.1,hr.2];exact hW0,hfin (by rw[cons_append,append_assoc];exact hs.tail)⟩
  ·cases h
 ·obtain⟨g1,o1,k1,hg1,hg',ho',hk1⟩:∃g1 o1 k1,Goes (partsM s m) (partsM s m d) (g++[d]) o g1 o1 k1∧g'=g1∧o'=o1++[d]∧k1<k:=by
   cases hG with
   | skip h _=>exact absurd h hdg
   | go _ h1 h2=>cases h2;exact⟨_,_,_,h1,rfl,rfl,by omega⟩
  rw[decide_eq_false hdg] at hhas
  refine cq<|cq<|CW.quiet mixedP (by kernel_rfl) hs ?_
  refine qm<|qn rfl<|qF 2 u225 rfl ty35 rfl<|qV (fun w hs=>run_load1 ty35 rfl (hs.c1 (v:=.slice ga g.length gc) rfl))<|qV (fun w hs=>run_loadN ty44 rfl hdl hs.a0)<|QL.enter rfl (fun w=>run_call en66 rfl rfl) (fun w hs=>hhas hs.tail) ?_
  refine QL.nil (fun w hs=>?_)
  refine CW.cond rfl (fun h=>?_) (fun h=>?_)
  ·cases h
  refine ck<|CW.seqM (fun f w=>∃vg' Lg',OwnSl 44 32 vg' (g++[d]).length (digsL (g++[d])) Lg'∧Step S ((bG,blk 225 [.pointer (some ⟨br,0,none⟩),.slice la m.length lc,vg',vo])::(b3,blk 44 (u8s d))::(Lg'++(Lo++B))) w0 w∧Holds f [(0,.pointer (some ⟨bG,0,none⟩)),(3,.pointer (some ⟨b3,0,none⟩))]) ?_ ?_
  ·skip
   refine CW.any (A:=fun w=>Step S [(b3,blk 44 (u8s d))] w0 w) (C:=fun w=>Step S [(b3,blk 44 (u8s d)),(bG,blk 225 [.pointer (some ⟨br,0,none⟩),.slice la m.length lc,.slice ga g.length gc,vo])] w0 w) 10 11 mixedP rfl ?_
   replace hs:=hs.drew
   refine aM 0 rfl<|aM 1 rfl<|aV 2 rfl (fun w hs=>run_nilCheck rfl)<|aV 3 rfl (fun w hs=>run_field (o':=2) u225 rfl ty35 rfl rfl rfl)<|aV 4 rfl (fun w hs=>run_load1 ty35 rfl (hs.c1 rfl))<|aV 5 rfl (fun w hs=>run_loadN ty44 rfl hdl hs.a0)<|AL.one 6 (by kernel_rfl) rfl (by exact Step.dropR (L1:=[(b3,_)]) hs) (by exact Step.dropR (L1:=[_,_]) hs) ?_
   refine WL.buildSlice (cs:=u8s d) u35 ty44 rfl (by decide) rfl (filled1 hdl rfl) rfl hs (fun b18 w hs=>?_)
   have hsl18:Sl w 32 (.slice (some ⟨b18,0,none⟩) 1 1) 1 (u8s d):=.own1 hs (by rw[hdl])
   replace hs:=Step.in3 hs
   refine wZ<|⟨rfl,?_⟩
   refine AL.one 7 (by kernel_rfl) rfl (by exact Step.dropR (L1:=[(b3,_)]) (hs.dropL (L1:=Lg)).tail) (by exact Step.dropR (L1:=[_,_]) (hs.dropL (L1:=Lg)).tail) ?_
   refine WL.append u35 u35 ty44 rfl (by decide) rfl rfl (hvg) (hs) (hsl18) (Cells1.u8s _) (by omega) rfl (fun v19 Lv19 w hv19 hs=>?_)
   replace hs:=Step.out3 hs
   refine wZ<|⟨rfl,?_⟩
   refine AL.valA 8 rfl (by kernel_rfl) rfl (fun w hs=>run_nilCheck rfl) ?_
   refine aV 9 rfl (fun w hs=>run_field (o':=2) u225 rfl ty35 rfl rfl rfl)<|AL.one 10 (by kernel_rfl) rfl (by exact Step.dropR (L1:=[(b3,_)]) hs) (by exact Step.dropR (L1:=[_,_]) hs) ?_
   refine ws1 ty35 rfl rfl (hv19.one) (hs.swap) (fun w hs=>?_)
   refine wZ<|⟨rfl,?_⟩
   refine AL.relax (by kernel_rfl) ?_
   refine AL.end (by kernel_rfl) (by exact Step.dropR (L1:=[(b3,_)]) hs.tail) (trivial) ?_
   exact⟨rfl,v19,Lv19,by rw[length_append,digsL_snoc];exact hv19,hs,rfl,rfl,trivial⟩
  clear hs
  rintro f w ⟨vg',Lg',hvg',hs,hf⟩
  have ob:=hf.chain
  obtain⟨gg,rfl⟩:=ob
  refine CW.seqM (fun f w=>∃u Lu,OwnSl 44 32 u (partsM s m d).length (digsL (partsM s m d)) Lu∧Step S (((b3,blk 44 (u8s d))::Lu)++(((bG,blk 225 [.pointer (some ⟨br,0,none⟩),.slice la m.length lc,vg',vo])::(Lg'++Lo))++B)) w0 w∧Holds f [(0,.pointer (some ⟨bG,0,none⟩)),(3,.pointer (some ⟨b3,0,none⟩)),(4,u)]) ?_ ?_
  ·have hpr:=fun{w:World} (h:Step S ((bG,blk 225 [.pointer (some ⟨br,0,none⟩),.slice la m.length lc,vg',vo])::(b3,blk 44 (u8s d))::(Lg'++(Lo++B))) w0 w)=>partsR_spec (w0:=w) (d:=d) hR ok (by rw[hB];exact Step.lvB h) (hL.slH (fun p hp=>h.has p (by simp[hDB p (hLD p hp)]))) h32m hm (fun h=>hM.got _ h) hd32
   refine CW.any (A:=fun w=>Step S [(bG,blk 225 [.pointer (some ⟨br,0,none⟩),.slice la m.length lc,vg',vo]),(b3,blk 44 (u8s d))] w0 w) (C:=fun w=>Step S [(bG,blk 225 [.pointer (some ⟨br,0,none⟩),.slice la m.length lc,vg',vo]),(b3,blk 44 (u8s d))] w0 w) 1000000 11 mixedP rfl ?_
   replace hs:=hs.drew
   refine aM 0 rfl<|aV 1 rfl (fun w hs=>run_nilCheck rfl)<|aV 2 rfl (fun w hs=>run_field (o':=0) u225 rfl ty40 rfl rfl rfl)<|aV 3 rfl (fun w hs=>run_load1 ty40 rfl (hs.c0 (v:=.pointer (some ⟨br,0,none⟩)) rfl))<|aM 4 rfl<|aV 5 rfl (fun w hs=>run_nilCheck rfl)<|aV 6 rfl (fun w hs=>run_field (o':=1) u225 rfl ty133 rfl rfl rfl)<|aV 7 rfl (fun w hs=>run_load1 ty133 rfl (hs.c0 (v:=.slice la m.length lc) rfl))<|aV 8 rfl (fun w hs=>run_loadN ty44 rfl hdl hs.a1)<|AL.one 9 (by kernel_rfl) rfl (by exact Step.dropR (L1:=[_,_]) hs) (by exact Step.dropR (L1:=[_,_]) hs) ?_
   refine wE rfl (run_call en158 rfl rfl) (hpr hs) ?_
   rintro e w ⟨u,Lu,rfl,hu,hq⟩
   refine⟨_,rfl,?_⟩
   replace hs:=Step.call0 hs hq
   refine wZ<|⟨rfl,?_⟩
   refine aV 10 rfl (fun w hs=>run_assign)<|AL.end (by kernel_rfl) (by exact Step.dropR (L1:=[_,_]) (hs.dropL (L1:=Lu))) (by exact Step.dropR (L1:=[_,_]) (hs.dropL (L1:=Lu))) ?_
   exact⟨rfl,u,Lu,hu,Step.tE hs,rfl,rfl,rfl,trivial⟩
  clear hs
  rintro f w ⟨u,Lu,hu,hs,hf⟩
  have ob:=hf.chain
  obtain⟨gg,rfl⟩:=ob
  have ob:∃l,partsM s m d=l:=⟨_,rfl⟩
  obtain⟨l,hl⟩:=ob
  have hll:=hpl d
  rw[hl] at hu hg1 hll
  have hlU:∀x∈l,x∈ordM m:=fun x hx=>hM.sub d hdU x (hl▸hx)
  have ob:=hu.form
  obtain⟨ua,uc,rfl⟩:=ob
  have hnd1:(g++[d]).Nodup:=by
   rw[nodup_append]
   refine⟨hnd,nodup_cons.2 ⟨by simp,nodup_nil⟩,fun a ha b hb he=>?_⟩
   rw[mem_singleton] at hb
   exact hdg (hb▸he▸ha)
  have hgU1:∀x∈g++[d],x∈ordM m:=fun x hx=>by
   rcases mem_append.1 hx with hx | hx
   ·exact hgU x hx
   ·rw[mem_singleton] at hx;exact hx▸hdU
  refine CW.seqM (fun f w=>∃vg2 Lg2 vo2 Lo2,OwnSl 44 32 vg2 g1.length (digsL g1) Lg2∧OwnSl 44 32 vo2 o1.length (digsL o1) Lo2∧o1.length≤65536∧Step S ((b3,blk 44 (u8s d))::(bG,blk 225 [.pointer (some ⟨br,0,none⟩),.slice la m.length lc,vg2,vo2])::(Lo2++(Lg2++(Lu++B)))) w0 w∧Holds f [(0,.pointer (some ⟨bG,0,none⟩)),(3,.pointer (some ⟨b3,0,none⟩))]) ?_ ?_
  ·refine sr<|wA<|wZ<|cB<|CW.loop (fun z f w'=>∃i gi oi Wi ki,i≤l.length∧z=l.length - i∧Goes (partsM s m) (l.drop i) gi oi g1 o1 ki∧ki≤k1∧gi.Nodup∧(∀x∈gi,x∈ordM m)∧oi.length+1≤gi.length∧GRep bG br (.slice la m.length lc) gi oi Wi∧Step S (((b3,blk 44 (u8s d))::Lu)++(Wi++B)) w0 w'∧Holds f [(0,.pointer (some ⟨bG,0,none⟩)),(3,.pointer (some ⟨b3,0,none⟩)),(4,.slice ua l.length uc),(5,.int .i64 (i:Nat))]) (m:=l.length) ?_ ?_
   ·exact⟨0,g++[d],o,_,k1,Nat.zero_le _,rfl,hg1,Nat.le_refl _,hnd1,hgU1,by rw[length_append,length_singleton];omega,⟨vg',Lg',vo,Lo,rfl,hvg',hvo⟩,hs,rfl,rfl,rfl,rfl,trivial⟩
   clear hs
   rintro z f w ⟨i,gi,oi,Wi,ki,hil,rfl,hGi,hki,hndi,hgUi,holi,hWi,hs,hf⟩
   have ob:=hf.chain
   obtain⟨gs,rfl⟩:=ob
   by_cases hlt:i<l.length
   ·have ob:∃x,l[i]=x:=⟨_,rfl⟩
    obtain⟨x,hx⟩:=ob
    have hxm:x∈l:=hx▸getElem_mem hlt
    have hx32:=hM.len x (hlU x hxm)
    have hxl:(u8s x).length=32:=by rw[u8s,length_map,hx32]
    rw[drop_eq_getElem_cons hlt,hx] at hGi
    have ob:=hGi.split
    obtain⟨g2,o2,ka,kb,hGx,hGr,hka,hkb⟩:=ob
    have ob:=hu.some1 (by omega)
    obtain⟨bu,cu,more,hu1,hu2,hu3⟩:=ob
    cases hu1
    subst hu2
    have hxat:At w bu (0+i*32) (u8s x):=digsL_at (fun y hy=>hM.len y (hlU y hy)) (At.of_blk (hs.has (bu,blk 44 (digsL l++more)) (by simp))).left (by rw[getElem?_eq_getElem hlt,hx])
    have hto:=fun h=>ih ka (by omega) (w0:=w) hGx (hlU x hxm) hndi hgUi (by omega) hWi h
    rw[hB] at hto
    refine cq<|sr<|wm<|wm<|wV (run_lenSl u35 rfl)<|wV (run_bT (run_lss rfl rfl) (by omega))<|wZ<|CW.cond rfl (fun h=>?_) (fun h=>?_)
    ·refine ck<|cq<|cB<|cr<|wm<|wm<|wm<|wV (run_ixSlN u35 ty44 rfl rfl (by omega))<|wV (run_loadN ty44 rfl hxl hxat)<|wE rfl (run_call en120 rfl rfl) (hto (Own.live (A:=[_,_]) hs)) ?_
     rintro e w ⟨W2,rfl,hG2,hq⟩
     refine⟨_,rfl,?_⟩
     replace hs:=Own.set (A:=[_,_]) hs hq
     refine wZ<|cr<|wm<|wV (run_add (c:=((i+1:Nat):Int)) rfl rfl (by omega) (by omega))<|wA<|wZ<|(show _∧_ from⟨rfl,_,?_,i+1,g2,o2,W2,kb,hlt,rfl,hGr,Nat.le_trans hkb hki,hGx.nodup hndi,?_,hGx.len 1 holi,hG2,hs,rfl,rfl,rfl,rfl,trivial⟩)
     ·omega
     ·exact hGx.sub hM.sub (fun y hy=>by obtain rfl:=mem_singleton.1 hy;exact hlU _ hxm) hgUi
    ·cases h
   ·obtain rfl:i=l.length:=by omega
    rw[drop_length] at hGi
    refine cq<|sr<|wm<|wm<|wV (run_lenSl u35 rfl)<|wV (run_bF (run_lss rfl rfl) (by omega))<|wZ<|CW.cond rfl (fun h=>?_) (fun h=>?_)
    ·cases h
    have hgl1:=nodup_len hndi hgUi
    cases hGi
    obtain⟨vg2,Lg2,vo2,Lo2,hWe,hv2,hv3⟩:=hWi
    subst hWe
    refine CW.exit ?_
    exact⟨rfl,vg2,Lg2,vo2,Lo2,hv2,hv3,by omega,Step.tC hs,rfl,rfl,trivial⟩
  clear hs
  rintro f w ⟨vg2,Lg2,vo2,Lo2,hv2,hv3,hol2,hs,hf⟩
  have ob:=hf.chain
  obtain⟨gt,rfl⟩:=ob
  have ob:=hv3.form
  obtain⟨oa,oc,rfl⟩:=ob
  refine CW.any (A:=fun w=>Step S [(b3,blk 44 (u8s d))] w0 w) (C:=fun w=>Step S [(b3,blk 44 (u8s d)),(bG,blk 225 [.pointer (some ⟨br,0,none⟩),.slice la m.length lc,vg2,.slice oa o1.length oc])] w0 w) 10 11 mixedP rfl ?_
  replace hs:=hs.drew
  refine aM 0 rfl<|aM 1 rfl<|aV 2 rfl (fun w hs=>run_nilCheck rfl)<|aV 3 rfl (fun w hs=>run_field (o':=3) u225 rfl ty35 rfl rfl rfl)<|aV 4 rfl (fun w hs=>run_load1 ty35 rfl (hs.c1 rfl))<|aV 5 rfl (fun w hs=>run_loadN ty44 rfl hdl hs.a0)<|AL.one 6 (by kernel_rfl) rfl (by exact Step.dropR (L1:=[(b3,_)]) hs) (by exact Step.dropR (L1:=[_,_]) hs) ?_
  refine WL.buildSlice (cs:=u8s d) u35 ty44 rfl (by decide) rfl (filled1 hdl rfl) rfl hs (fun b50 w hs=>?_)
  have hsl50:Sl w 32 (.slice (some ⟨b50,0,none⟩) 1 1) 1 (u8s d):=.own1 hs (by rw[hdl])
  replace hs:=Step.in3 hs
  refine wZ<|⟨rfl,?_⟩
  refine AL.one 7 (by kernel_rfl) rfl (by exact Step.dropR (L1:=[(b3,_)]) (hs.dropL (L1:=Lo2)).tail) (by exact Step.dropR (L1:=[_,_]) (hs.dropL (L1:=Lo2)).tail) ?_
  refine WL.append u35 u35 ty44 rfl (by decide) rfl rfl (hv3) (hs) (hsl50) (Cells1.u8s _) (by omega) rfl (fun v51 Lv51 w hv51 hs=>?_)
  replace hs:=Step.out3 hs
  refine wZ<|⟨rfl,?_⟩
  refine AL.valA 8 rfl (by kernel_rfl) rfl (fun w hs=>run_nilCheck rfl) ?_
  refine aV 9 rfl (fun w hs=>run_field (o':=3) u225 rfl ty35 rfl rfl rfl)<|AL.one 10 (by kernel_rfl) rfl (by exact Step.dropR (L1:=[(b3,_)]) hs) (by exact Step.dropR (L1:=[_,_]) hs) ?_
  refine ws1 ty35 rfl rfl (hv51.one) (hs.swap) (fun w hs=>?_)
  refine wZ<|⟨rfl,?_⟩
  refine AL.relax (by kernel_rfl) ?_
  refine AL.end (by kernel_rfl) (by exact Step.dropR (L1:=[(b3,_)]) hs.tail) (trivial) ?_
  refine fin_end0 rfl ?_
  have hsF:=Step.tF hs
  refine⟨_,rfl,⟨vg2,Lg2,v51,Lv51,rfl,by rw[hg'];exact hv2,?_⟩,hfin hsF⟩
  rw[ho',length_append,digsL_snoc];exact hv51
end
theorem bld_go (a b:Option Addr) (n c:Nat) (w:World):(Instr.build 225 #[(0,.pointer a),(1,.slice b n c)]).run Tryz.prog w=.ok (.agg #[.pointer a,.slice b n c,.slice none 0 0,.slice none 0 0]) w:=by kernel_rfl
theorem Step.nilR{S:List Nat}{L:List (Nat×Obj)}{w w':World} (h:Step S (L++[]) w w'):Step S L w w':=by rw[append_nil] at h;exact h
section
variable{br:Nat}{s:AS}{D R LvL:List (Nat×Obj)}{r:List UInt8}{m:List (List UInt8×Bool)}{vL:Value}{gf of:List (List UInt8)}{k:Nat}{w0:World}
theorem behindR_spec (hR:RRep br s D R) (ok:s.Ok) (hM:Met s r m) (hL:OwnSl 137 33 vL m.length (rowsSt m) LvL) (hLD:∀p∈LvL,p∈D) (hm:m.length≤65536) (h32m:∀p∈m,p.1.length=32) (hpl:∀d,(partsM s m d).length<1000000000) (hG:Goes (partsM s m) [r] [] [] gf of k) (hw:Lives (R++D) w0) :
  CP 71 #[.pointer (some ⟨br,0,none⟩),vL] w0 fun e w'=>∃v Lv,e=.returned v∧OwnSl 44 32 v of.length (digsL of) Lv∧Step [] Lv w0 w':=by
 have hrU:=mem_of_getElem? hM.head
 have hr32:=hM.len r hrU
 have hrl:(u8s r).length=32:=by rw[u8s,length_map,hr32]
 obtain⟨pb,hp0⟩:∃pb,m[0]?=some (r,pb):=by
  cases hme:m with
  | nil=>have h:=hM.head;rw[hme] at h;cases h
  | cons p rest=>
   obtain⟨pd,pb⟩:=p
   have h:=hM.head
   rw[hme,ordM_head pb rest] at h
   obtain rfl:=Option.some.inj h
   exact⟨pb,rfl⟩
 have hm0:0<m.length:=(List.getElem?_eq_some_iff.1 hp0).1
 have hL0:=hL
 have ob:=hL.some1 hm0
 obtain⟨bl,cl,more,hl1,hl2,hl3⟩:=ob
 subst hl1
 have hs:Step [] [] w0 w0:=Step.refl w0
 have hrow:At w0 bl (0+0*33) (u8s r):=(rowsSt_at h32m (At.of_blk (hw.has (bl,blk 137 (rowsSt m++more)) (mem_append_right _ (hLD _ (by rw[hl2];simp))))).left hp0).left
 refine calls (n:=20) Tryz.func71 rfl rfl rfl ?_
 refine sr<|wA<|wZ<|sr<|wm<|wm<|wV (run_build rfl (bld_go _ _ _ _ _))<|WL.box (cs:=[.pointer (some ⟨br,0,none⟩),.slice (some ⟨bl,0,none⟩) m.length cl,.slice none 0 0,.slice none 0 0]) rfl rfl rfl hs (fun b9 w hs=>?_)
 refine wA<|wZ ?_
 have hG0:GRep b9 br (.slice (some ⟨bl,0,none⟩) m.length cl) [] [] [(b9,blk 225 [.pointer (some ⟨br,0,none⟩),.slice (some ⟨bl,0,none⟩) m.length cl,.slice none 0 0,.slice none 0 0])]:=⟨_,[],_,[],rfl,OwnSl.nil _ _,OwnSl.nil _ _⟩
 refine sr<|wm<|wm<|wV (run_ixSlN (i:=0) u133 ty137 rfl rfl (by omega))<|wF 0 u137 rfl ty44 rfl<|wV (run_loadN ty44 rfl hrl (hrow.step hs.clear (by simp)))<|wE rfl (run_call en120 rfl rfl) (to_spec (w0:=w) hR ok hM hL0 hLD hm h32m hpl k hG hrU nodup_nil (fun x hx=>by cases hx) (Nat.le_refl _) hG0 (Lives.mk (Step.call0 hw hs))) ?_
 rintro e w ⟨W1,rfl,hG1,hq⟩
 refine⟨_,rfl,?_⟩
 replace hs:=Step.nilR (Step.call (L1:=[_]) (L:=[]) hs hq)
 refine wZ ?_
 obtain⟨vg,Lg,vo,Lo,hWe,hvg,hvo⟩:=hG1
 subst hWe
 refine sr<|wm<|wn rfl<|wF 3 u225 rfl ty35 rfl<|wl ty35 rfl (hs.c0 (v:=vo) rfl)<|wA<|wZ<|CW.ret ?_
 refine fin_ret1 rfl ?_
 exact⟨_,Lo,rfl,hvo,Step.dropL (L1:=Lg) hs.tail⟩
end
end Go.Gx
namespace Go.Gx
open Go.Proofs List
theorem entsP_len{bs:List UInt8}:∀{n:Nat}{a:List UInt8}{p q:Nat}{l:List Ent},entsP bs n a p=.ok (l,q)→l.length=n
 | 0,a,p,q,l,h=>by
  unfold entsP at h
  injection h with h;injection h with h1 h2
  subst h1;rfl
 | n+1,a,p,q,l,h=>by
  unfold entsP at h
  split at h
  ·cases h
  ·rename_i x q' h1
   split at h
   ·cases h
   ·rename_i l' r h2
    injection h with h;injection h with h3 h4
    subst h3
    rw[length_cons,entsP_len h2]
theorem decL_len (y:List UInt8):(decL y).length≤1024:=by
 unfold decL
 split
 ·unfold readP
  split
  ·exact Nat.zero_le _
  ·rename_i l q h
   split
   ·exact Nat.zero_le _
   ·unfold decP at h
    split at h
    ·cases h
    ·split at h
     ·split at h
      ·cases h
      ·rename_i n q' hm
       have h1:=entsP_len h
       have h2:=(mostP_ok hm).2.2
       show l.length≤1024
       omega
     ·cases h
 ·exact Nat.zero_le _
theorem partsM_len (s:AS) (m:List (List UInt8×Bool)) (d:List UInt8):(partsM s m d).length<1000000000:=by
 unfold partsM
 split
 ·unfold partsD
  rw[length_map]
  have:=decL_len (s.get d).1
  omega
 ·decide
end Go.Gx
namespace Go.Gx
open Go.Proofs List
attribute [local irreducible] shaL cutD frontL
def copyR (t:AS):List (List UInt8×List UInt8)→Nat→Nat×Int×AS
 | [],n=>(n,0,t)
 | (d,b)::l,n=>if (t.put b).2.1≠0 then (n,(((t.put b).2.1:Nat):Int),(t.put b).2.2) else copyR (t.put b).2.2 l (if (t.put b).2.2.stamp d=t.stamp d then n else n+1)
section
variable{t:AS}{d b:List UInt8}{l:List (List UInt8×List UInt8)}{n:Nat}
def cpR (r:Int×WS) (s t:AS) (of:List (List UInt8)):Nat×Int×AS:=if r.1≠0 then (0,r.1,t) else copyR t (of.map fun x=>(x,(s.get x).1)) 0
end
theorem Met.of_le{s:AS}{d:List UInt8}{m:List (List UInt8×Bool)}{gf of:List (List UInt8)}{k:Nat} (h:Met s d m) (hG:Goes (partsM s m) [d] [] [] gf of k):of.length≤m.length∧∀x∈of,x∈ordM m:=by
 have h1:=hG.nodup nodup_nil
 have h2:=hG.sub h.sub (fun x hx=>by obtain rfl:=mem_singleton.1 hx;exact mem_of_getElem? h.head) (fun x hx=>by cases hx)
 have ob:=hG.ext
 obtain⟨n,t,e1,e2,hp⟩:=ob
 rw[nil_append] at e1 e2
 subst e1
 subst e2
 have h3:=nodup_len h1 h2
 have h4:=ordM_len m
 exact⟨by rw[hp.length_eq];omega,fun x hx=>h2 x (hp.mem_iff.1 hx)⟩
section
variable{S:List Nat}{a p q:Nat×Obj}{A B C E O Z X Y:List (Nat×Obj)}{w w':World}
end
section
variable{bf tp:Nat}{s t1:AS}{Q:List (Nat×Obj)→List (Nat×Obj)→Prop}{Lt O D:List (Nat×Obj)}{d:List UInt8}{r:Int×WS}{rn rd rb:Int}{N k kw:Nat}{gf of:List (List UInt8)}{w0:World}
def WkTo (bf tp:Nat) (s t1:AS) (Q:List (Nat×Obj)→List (Nat×Obj)→Prop) (Lt O D:List (Nat×Obj)) (r:Int×WS) (w:World) (e:Ending) (w':World):Prop:=
 ∃v L1 O1 D1 M,e=.returned (.tuple #[v,.int .i64 r.1])∧PRep tp t1 (D1++D) L1∧Q (D1++D) O1∧(r.1=0→∃bm,v=.pointer (some ⟨bm,0,none⟩)∧MetRep bm s r.2.m (D1++D) M)∧Step (List.map (·.1) (Lt++O)) (L1++(O1++(M++D1))) w w'
end
section
variable{br:Nat}{s:AS}{D R:List (Nat×Obj)}{d:List UInt8}{w0:World}
end
section
variable{bf tp:Nat}{s t1:AS}{I:AS→Prop}{Q:List (Nat×Obj)→List (Nat×Obj)→Prop}{Rt O D:List (Nat×Obj)}{d:List UInt8}{r:Int×WS}{rn rd rb:Int}{N k kw:Nat}{gf of:List (List UInt8)}{w0:World}
def WkToR (bf tp:Nat) (t1:AS) (Q:List (Nat×Obj)→List (Nat×Obj)→Prop) (Rt O D:List (Nat×Obj)) (r:Int×WS) (w:World) (e:Ending) (w':World):Prop:=
 ∃v R1 O1 D1 Lv,e=.returned (.tuple #[v,.int .i64 r.1])∧RRep tp t1 (D1++D) R1∧Q (D1++D) O1∧(r.1=0→OwnSl 137 33 v r.2.m.length (rowsSt r.2.m) Lv)∧Step (List.map (·.1) (Rt++O)) (R1++(O1++(Lv++D1))) w w'
end
section
variable{bp br tp tr:Nat}{s t:AS}{D L Lt R Rt:List (Nat×Obj)}{d:List UInt8}{rn rd rb:Int}{N k:Nat}{gf of:List (List UInt8)}{w0:World}
structure Wkd (s:AS) (d:List UInt8) (r:Int×WS) (gf of:List (List UInt8)) (k:Nat):Prop where
 met:r.1=0→Met s d r.2.m
 len:r.1=0→r.2.m.length≤65536
 m32:r.1=0→∀p∈r.2.m,p.1.length=32
 go:r.1=0→Goes (partsM s r.2.m) [d] [] [] gf of k
theorem runs_wkd (hd:d.length=32) (hrm:(rmOf rn rd rb).Ok):∃gf of k,Wkd s d (runs s (rmOf rn rd rb) [rootS d] ws0) gf of k∧of.length≤65536:=by
 have hmet:=fun{t:WS} h=>runs_met (s:=s) (rm:=rmOf rn rd rb) (t:=t) hd h
 have hgd:=standP_good (s:=s) (rm:=rmOf rn rd rb) hrm 34 (x:=rootS d) (t:=ws0) (ws0_good.mono (by omega))
 have hM32:=root_M32 (s:=s) (rm:=rmOf rn rd rb) hd
 rw[←runs_root] at hgd hM32
 have ob:∃r,runs s (rmOf rn rd rb) [rootS d] ws0=r:=⟨_,rfl⟩
 obtain⟨r,hr⟩:=ob
 rw[hr] at hmet hgd hM32⊢
 by_cases he:r.1=0
 ·have h1:=hmet (t:=r.2) (by rw[←he])
  have hg:=hgd he
  have hml:r.2.m.length≤65536:=Nat.le_trans hg.m hg.n
  have ob:=h1.goes
  obtain⟨gf,of,k,hG⟩:=ob
  exact⟨gf,of,k,⟨fun _=>h1,fun _=>hml,fun _=>hM32 he,fun _=>hG⟩,Nat.le_trans (h1.of_le hG).1 hml⟩
 ·exact⟨[],[],0,⟨fun h=>absurd h he,fun h=>absurd h he,fun h=>absurd h he,fun h=>absurd h he⟩,Nat.zero_le _⟩
section
variable{r:Int×WS}
end
section
variable (W:Wkd s d (runs s (rmOf rn rd rb) [rootS d] ws0) gf of k) (ok:s.Ok) (hfew:s.Few N) (hN:N<900000000) (hd:d.length=32) (hrm:(rmOf rn rd rb).Ok)
include W ok hfew hN hd hrm
end
end
def cp2 (r:Int×WS) (s t:AS) (of:List (List UInt8)):(Nat×Int×AS)×AS:=if s.k=t.k then (cpR r s t of,s.gotN r.2.g) else ((0,3,t),s)
section
variable{A B X:List (Nat×Obj)}{w w' w0:World}{S:List Nat}
end
section
variable{bp br tp tr:Nat}{s t:AS}{D L Lt R Rt:List (Nat×Obj)}{d:List UInt8}{rn rd rb:Int}{N k:Nat}{gf of:List (List UInt8)}{w0:World}
section
variable (W:Wkd s d (runs s (rmOf rn rd rb) [rootS d] ws0) gf of k) (ok:s.Ok) (okt:t.Ok) (hfew:s.Few N) (hft:t.Few N) (hN:N<900000000) (hd:d.length=32) (hrm:(rmOf rn rd rb).Ok)
include W ok okt hfew hft hN hd hrm
end
end
end Go.Gx
namespace Go.Gx
open Go.Proofs List
def addAll:List (List (List UInt8))→List UInt8→Int→List UInt8×Int
 | [],c,ft=>(c,ft)
 | ps::l,c,ft=>addAll l (addC c ft ps) (addF c ft ps)
theorem addAll_err{ft:Int} (h:ft≠0):∀(l:List (List (List UInt8))) (c:List UInt8),addAll l c ft=(c,ft)
 | [],c=>rfl
 | ps::l,c=>by
  have h1:addF c ft ps=ft:=by unfold addF;rw[if_neg (fun hh=>h hh.1)]
  have h2:addC c ft ps=c:=by unfold addC;rw[h1,if_neg h]
  rw[addAll,h1,h2,addAll_err h l c]
theorem addAll_snoc (ps:List (List UInt8)):∀(l:List (List (List UInt8))) (c:List UInt8) (ft:Int),addAll (l++[ps]) c ft=(addC (addAll l c ft).1 (addAll l c ft).2 ps,addF (addAll l c ft).1 (addAll l c ft).2 ps)
 | [],c,ft=>rfl
 | qs::l,c,ft=>by rw[cons_append,addAll,addAll,addAll_snoc ps l]
theorem addAll_ok:∀(l:List (List (List UInt8))) (c:List UInt8),c.length≤4194304→(addAll l c 0).2=(if c.length+(l.flatMap List.flatten).length≤4194304 then 0 else 2)∧(c.length+(l.flatMap List.flatten).length≤4194304→(addAll l c 0).1=c++l.flatMap List.flatten)
 | [],c,h=>by simp[addAll,h]
 | ps::l,c,h=>by
  by_cases hb:c.length+ps.flatten.length≤4194304
  ·have h1:addF c 0 ps=0:=by unfold addF;rw[if_neg (by omega)]
   have h2:addC c 0 ps=c++ps.flatten:=by unfold addC;rw[h1,if_pos rfl]
   have ih:=addAll_ok l (c++ps.flatten) (by rw[length_append];exact hb)
   rw[addAll,h1,h2]
   rw[length_append] at ih
   rw[flatMap_cons,length_append,←Nat.add_assoc,←append_assoc]
   exact ih
  ·have h1:addF c 0 ps=2:=by unfold addF;rw[if_pos ⟨rfl,by omega⟩]
   rw[addAll,h1,addAll_err (by decide),flatMap_cons,length_append]
   refine⟨?_,fun hh=>?_⟩
   ·rw[if_neg (by omega)]
   ·omega
theorem addAll_le:∀(l:List (List (List UInt8))) (c:List UInt8) (ft:Int),c.length≤4194304→(addAll l c ft).1.length≤4194304
 | [],c,ft,h=>h
 | ps::l,c,ft,h=>by
  refine addAll_le l _ _ ?_
  unfold addC
  by_cases hf:addF c ft ps=0
  ·rw[if_pos hf]
   unfold addF at hf
   by_cases hx:ft=0∧c.length+ps.flatten.length > 4194304
   ·rw[if_pos hx] at hf;cases hf
   ·rw[if_neg hx] at hf
    rw[length_append]
    have:¬(c.length+ps.flatten.length > 4194304):=fun hh=>hx ⟨hf,hh⟩
    omega
  ·rw[if_neg hf];exact h
def packB (k:Nat) (l:List (List UInt8)):List UInt8:=formB 5++formB k++formB l.length++l.flatMap fun x=>formB x.length++x
theorem done_bad{b:Nat}{c:List UInt8}{ft:Int}{Lw:List (Nat×Obj)} (w0:World) (hW:Wr b c ft Lw) (hO:Step (Lw.map (·.1)) Lw w0 w0) (hft:ft≠0) :
  CP 87 #[.pointer (some ⟨b,0,none⟩)] w0 (Ret0 (.tuple #[.slice none 0 0,.int .i64 ft]) w0):=by
 obtain⟨v,Lv,rfl,hv⟩:=hW
 have hb:w0.heap[b]?=some (blk 237 [v,.int .i64 ft]):=hO.has (b,blk 237 [v,.int .i64 ft]) (by simp)
 have hat:At w0 b 0 [v,.int .i64 ft]:=At.of_blk hb
 have hs:Step [] [] w0 w0:=Step.refl w0
 refine calls (n:=18) Tryz.func87 rfl rfl rfl ?_
 refine sr<|wA<|wA<|wZ<|cq<|sr<|wm<|wn rfl<|wF 1 u237 rfl ty36 rfl<|wl ty36 rfl ((hat.step hs.clear (by simp)).cell (j:=1) rfl)<|wV (run_bT (run_neq rfl rfl) (by exact hft))<|wZ ?_
 refine CW.cond rfl (fun h=>?_) (fun h=>?_)
 ·refine cq<|CW.quiet mixedP (by kernel_rfl) hs ?_
  refine qm<|qn rfl<|qF 1 u237 rfl ty36 rfl<|qV (fun w hs=>run_load1 ty36 rfl ((hat.step hs.clear (by simp)).cell (j:=1) rfl))<|qV (fun w hs=>run_assign)<|qV (fun w hs=>run_assign)<|QL.nil (fun w hs=>?_)
  refine CW.ret ?_
  refine fin_ret2 rfl ?_
  exact⟨rfl,hs.clear⟩
 ·cases h
end Go.Gx
namespace Go.Gx
open Go.Proofs List
attribute [local irreducible] shaL cutD frontL
def packR (s:AS) (r:Int×WS) (of:List (List UInt8)):List UInt8×Int:=if r.1≠0 then ([],r.1) else if (packB s.k (of.map fun d=>(s.get d).1)).length≤4194304 then (packB s.k (of.map fun d=>(s.get d).1),0) else ([],2)
theorem Step.kDrop{S:List Nat}{A B C X:List (Nat×Obj)}{w w':World} (h:Step S (A++(B++(C++X))) w w'):Step S (A++X) w w':=Step.dropL (L1:=B++C) (h.perm (by classical exact perm_iff_count.2 fun x=>by simp only[count_append];omega))
theorem Step.k3{S:List Nat}{a p q:Nat×Obj}{A B E Z X:List (Nat×Obj)}{w w':World} (h:Step S (a::(A++(B++(E++((p::q::Z)++X))))) w w'):Step S [a,p,q] w w':=Step.dropR (L1:=[a,p,q]) (L2:=A++(B++(E++(Z++X)))) (h.perm (by classical exact perm_iff_count.2 fun x=>by simp only[count_append,count_cons,count_nil];omega))
theorem Step.k4{S:List Nat}{a p q:Nat×Obj}{A B E Z X:List (Nat×Obj)}{w w':World} (h:Step S (A++(a::(B++(E++((p::q::Z)++X))))) w w'):Step S [a,p,q] w w':=Step.dropR (L1:=[a,p,q]) (L2:=A++(B++(E++(Z++X)))) (h.perm (by classical exact perm_iff_count.2 fun x=>by simp only[count_append,count_cons,count_nil];omega))
theorem Step.noM{S:List Nat}{L1 M X:List (Nat×Obj)}{w w':World} (h:Step S (L1++(M++X)) w w'):Lives (L1++X) w':=Lives.of (L2:=M) (h.perm (by classical exact perm_iff_count.2 fun x=>by simp only[count_append];omega))
def pcs (s:AS) (n:Nat) (l:List (List UInt8)):List (List (List UInt8)):=[[formB 5],[formB s.k],[formB n]]++l.map fun d=>[formB (s.get d).1.length,(s.get d).1]
theorem pcs_snoc (s:AS) (n:Nat) (l:List (List UInt8)) (d:List UInt8):pcs s n (l++[d])=pcs s n l++[[formB (s.get d).1.length,(s.get d).1]]:=by simp[pcs]
theorem pcs_packB (s:AS) (l:List (List UInt8)):(pcs s l.length l).flatMap List.flatten=packB s.k (l.map fun d=>(s.get d).1):=by
 have h:∀l:List (List UInt8),(l.map fun d=>[formB (s.get d).1.length,(s.get d).1]).flatMap List.flatten=(l.map fun d=>(s.get d).1).flatMap fun x=>formB x.length++x:=by
  intro l
  induction l with
  | nil=>rfl
  | cons x l ih=>rw[map_cons,flatMap_cons,ih,map_cons,flatMap_cons];simp
 rw[pcs,flatMap_append,h,packB,length_map]
 simp[append_assoc]
section
variable{bp:Nat}{s:AS}{D L:List (Nat×Obj)}{d:List UInt8}{w0:World}{rn rd rb:Int}{N k:Nat}{gf of:List (List UInt8)}
set_option maxHeartbeats 8000000 in
theorem pack_spec (hR:PRep bp s D L) (ok:s.Ok) (hfew:s.Few N) (hN:N<1000000000000) (hd:d.length=32) (hrm:(rmOf rn rd rb).Ok) (hG:(runs s (rmOf rn rd rb) [rootS d] ws0).1=0→Goes (partsM s (runs s (rmOf rn rd rb) [rootS d] ws0).2.m) [d] [] [] gf of k) (hw:Lives (L++D) w0) :
  CP 33 #[.pointer (some ⟨bp,0,none⟩),.agg (u8s d).toArray,.agg #[.int .i64 rn,.int .i64 rd,.int .i64 rb]] w0 fun e w'=>∃v Lv L' D',e=.returned (.tuple #[v,.int .i64 (packR s (runs s (rmOf rn rd rb) [rootS d] ws0) of).2])∧
   PRep bp (s.gotN (runs s (rmOf rn rd rb) [rootS d] ws0).2.g) (D'++D) L'∧OwnSl 5 1 v (packR s (runs s (rmOf rn rd rb) [rootS d] ws0) of).1.length (u8s (packR s (runs s (rmOf rn rd rb) [rootS d] ws0) of).1) Lv∧Step (L.map (·.1)) (L'++(Lv++D')) w0 w':=by
 have hw9:=fun{w1:World} h=>fwalk_spec (w0:=w1) hR ok hfew hN hd hrm h
 have hmet:=fun{t:WS} h=>runs_met (s:=s) (rm:=rmOf rn rd rb) (t:=t) hd h
 have ob:∃r,runs s (rmOf rn rd rb) [rootS d] ws0=r:=⟨_,rfl⟩
 obtain⟨r,hr⟩:=ob
 rw[hr] at hw9 hG⊢
 have hdl:(u8s d).length=32:=by rw[u8s,length_map,hd]
 have hs:Step (List.map (·.1) (L++D)) (L++D) w0 w0:=hw
 refine calls (n:=56) Tryz.func33 rfl rfl rfl ?_
 refine sr<|WL.box (cs:=u8s d) rfl rfl rfl hs (fun b4 w hs=>?_)
 refine WL.box (cs:=[.int .i64 rn,.int .i64 rd,.int .i64 rb]) rfl rfl rfl hs (fun b5 w hs=>?_)
 refine wA<|wA<|wZ<|sr<|wm<|wV (run_loadN ty44 rfl hdl hs.a1)<|wV (run_loadN ty30 rfl rfl hs.a0)<|wE rfl (run_call en64 rfl rfl) (hw9 (Lives.mk hs.tail.tail)) ?_
 rintro e w ⟨v,L1,D1,M,rfl,hP,hM,hnil,hq⟩
 refine⟨_,rfl,?_⟩
 replace hs:=Own.put (A:=[_,_]) (L:=L) hs hq
 refine wm<|wx rfl rfl<|wx rfl rfl<|wA<|wA<|wZ ?_
 replace hs:=hs.tail.tail
 by_cases he:r.1≠0
 ·have hre:packR s r of=([],r.1):=if_pos he
  rw[hre]
  refine cq<|sr<|wm<|wV (run_bT (run_neq rfl rfl) (by exact he))<|wZ<|CW.cond rfl (fun h=>?_) (fun h=>?_)
  ·refine sr<|wm<|wA<|wA<|wZ<|CW.ret ?_
   refine fin_ret2 rfl ?_
   exact⟨_,[],L1,M++D1,rfl,by rw[append_assoc];exact hP.mono mem_right,OwnSl.nil _ _,Step.fin (M:=[]) hw hs⟩
  ·cases h
 have he0:r.1=0:=by simpa using he
 have hmet:=hmet (t:=r.2) (by rw[hr,←he0])
 have ob:=hM he0
 obtain⟨bm,rfl,hMet⟩:=ob
 refine cq<|sr<|wm<|wV (run_bF (run_neq rfl rfl) (by exact he))<|wZ<|CW.cond rfl (fun h=>?_) (fun h=>?_)
 ·cases h
 have hgd:=standP_good (s:=s) (rm:=rmOf rn rd rb) hrm 34 (x:=rootS d) (t:=ws0) (ws0_good.mono (by omega))
 rw[←runs_root,hr] at hgd
 have hgd:=hgd he0
 have hml:r.2.m.length≤65536:=Nat.le_trans hgd.m hgd.n
 rw[append_assoc] at hs
 refine ck<|sr<|wm<|wE rfl (run_call en70 rfl rfl) (behind_spec hMet (Lives.mk (Step.dropL (L1:=L1) hs)) hmet.len hmet.sub (partsM_len s _) hml hmet.head (hG he0)) ?_
 rintro e w ⟨vo,Lo,rfl,hvo,hq⟩
 refine⟨_,rfl,?_⟩
 replace hs:=Step.call0 hs hq
 refine wA<|wZ ?_
 have ob:=hvo.form
 obtain⟨oa,oc,rfl⟩:=ob
 refine sr<|wE rfl (run_call en84 rfl rfl) (mnew_spec _) ?_
 rintro e w ⟨bw,Lw,rfl,hWr,hq⟩
 refine⟨_,rfl,?_⟩
 replace hs:=Step.call0 hs hq
 refine wA<|wZ<|sr<|wm<|wE rfl (run_call en85 rfl rfl) (num_spec 5 _ (by omega) hWr (Step.own hs) (by simp)) ?_
 rintro e w ⟨rfl,Lw1,hWr1,hq⟩
 refine⟨_,rfl,?_⟩
 replace hs:=Step.call (L1:=Lw) hs hq
 refine wZ ?_
 have hk1:=ok.k1
 have hk2:=ok.k2
 have hwid:=fun{w:World} (h:Step (List.map (·.1) (L++D)) (Lw1++(Lo++(L1++(M++(D1++D))))) w0 w)=>width_abs hP (ok.gotN _) (Step.noM (Step.dropL (L1:=Lo) (Step.dropL (L1:=Lw1) h)))
 have ob:=hmet.of_le (hG he0)
 obtain⟨hol,hofU⟩:=ob
 refine sr<|wm<|wm<|wE rfl (run_call en69 rfl rfl) (hwid hs) ?_
 rintro e w ⟨rfl,hq⟩
 refine⟨_,rfl,?_⟩
 replace hs:=hs.callE hq
 refine wE rfl (run_call en85 rfl rfl) (num_spec s.k _ (by omega) hWr1 (Step.own hs) (addAll_le [[formB 5]] [] 0 (by simp))) ?_
 rintro e w ⟨rfl,Lw2,hWr2,hq⟩
 refine⟨_,rfl,?_⟩
 replace hs:=Step.call (L1:=Lw1) hs hq
 refine wZ<|sr<|wm<|wm<|wV (run_lenSl u35 rfl)<|wE rfl (run_call en85 rfl rfl) (num_spec of.length _ (by omega) hWr2 (Step.own hs) (addAll_le [[formB 5],[formB s.k]] [] 0 (by simp))) ?_
 rintro e w ⟨rfl,Lw3,hWr3,hq⟩
 refine⟨_,rfl,?_⟩
 replace hs:=Step.call (L1:=Lw2) hs hq
 refine wZ<|CW.seqM (fun f w=>∃Lw',Wr bw (addAll (pcs s of.length of) [] 0).1 (addAll (pcs s of.length of) [] 0).2 Lw'∧Step (List.map (·.1) (L++D)) (Lw'++(Lo++(L1++(M++(D1++D))))) w0 w∧Holds f [(0,.pointer (some ⟨bp,0,none⟩)),(11,.pointer (some ⟨bw,0,none⟩))]) ?_ ?_
 ·refine sr<|wm<|wV (run_lenSl u35 rfl)<|wm<|wZ<|cB<|CW.loop (fun z f w'=>∃i Lw',i≤of.length∧z=of.length - i∧Wr bw (addAll (pcs s of.length (of.take i)) [] 0).1 (addAll (pcs s of.length (of.take i)) [] 0).2 Lw'∧Step (List.map (·.1) (L++D)) (Lw'++(Lo++(L1++(M++(D1++D))))) w0 w'∧Holds f [(0,.pointer (some ⟨bp,0,none⟩)),(8,.pointer (some ⟨bm,0,none⟩)),(11,.pointer (some ⟨bw,0,none⟩)),(37,.slice oa of.length oc),(38,.int .i64 (of.length:Nat)),(39,.int .i64 (i:Nat))]) (m:=of.length) ?_ ?_
  ·exact⟨0,Lw3,Nat.zero_le _,rfl,hWr3,hs,rfl,rfl,rfl,rfl,rfl,rfl,trivial⟩
  clear hs
  rintro z f w ⟨i,Lw',hil,rfl,hWr',hs,hf⟩
  have ob:=hf.chain
  obtain⟨g,rfl⟩:=ob
  by_cases hlt:i<of.length
  ·have ob:∃x,of[i]?=some x:=⟨_,getElem?_eq_getElem hlt⟩
   obtain⟨x,hx⟩:=ob
   have hxU:=hofU x (mem_of_getElem? hx)
   have hx32:=hmet.len x hxU
   have hxl:(u8s x).length=32:=by rw[u8s,length_map,hx32]
   have hgx:=get_len ok x
   have ob:=hvo.some1 (by omega)
   obtain⟨bu,cu,more,hu1,hu2,hu3⟩:=ob
   cases hu1
   subst hu2
   have hxat:At w bu (0+i*32) (u8s x):=digsL_at (fun y hy=>hmet.len y (hofU y hy)) (At.of_blk (hs.has (bu,blk 44 (digsL of++more)) (by simp))).left hx
   obtain⟨vO,LO,q1,M1,c1,q2,M2,c2,rfl,hO,hB,hPm⟩:=hMet
   have hbv:=hB.val x
   obtain⟨u,hu,hHl⟩:∃u,((findD x M1 0).map (·.2)).getD (.slice none 0 0)=u∧Held (D1++D) u (s.get x).1:=by
    cases hv:valD x M1 with
    | none=>rw[hv] at hbv;exact absurd hxU hbv
    | some u=>
     rw[hv] at hbv
     refine⟨u,?_,hbv.2⟩
     show(valD x M1).getD _=_
     rw[hv];rfl
   refine sr<|wV (run_bT (run_lss rfl rfl) (by omega))<|wZ<|cq<|CW.cond rfl (fun h=>?_) (fun h=>?_)
   ·refine ck<|cq<|cB<|sr<|wV (run_ixSlN u35 ty44 rfl rfl (by omega))<|wV (run_loadN ty44 rfl hxl hxat)<|WL.alloc ty44 rfl hs (fun b13 w hs=>?_)
    refine WL.storeAll ty44 rfl rfl ((hxl)) ((Cells1.u8s _)) hs (by rfl) (fun w hs=>?_)
    refine wZ ?_
    have ob:∃X,(L1++(((bm,blk 132 [vO,.map (some q1),.map (some q2)])::(q1,mapObj M1 c1)::(q2,mapObj M2 c2)::LO)++(D1++D)))=X:=⟨_,rfl⟩
    obtain⟨X,hX⟩:=ob
    have ob:=id hHl
    obtain⟨Lv,hOv,hsub⟩:=ob
    have hDX:∀p∈Lv,p∈X:=fun p hp=>hX▸mem_append_right _ (mem_append_right _ (hsub p hp))
    have hk3:∀{w:World},Step (List.map (·.1) (L++D)) ((b13,blk 44 (u8s x))::(Lw'++([(bu,blk 44 (digsL of++more))]++X))) w0 w→Step (List.map (·.1) (L++D)) [(b13,blk 44 (u8s x)),(bm,blk 132 [vO,.map (some q1),.map (some q2)]),(q1,mapObj M1 c1)] w0 w:=fun h=>Step.k3 (by rw[←hX] at h;exact h)
    have hk4:∀{Y:List (Nat×Obj)}{w:World},Step (List.map (·.1) (L++D)) (Y++((b13,blk 44 (u8s x))::([(bu,blk 44 (digsL of++more))]++X))) w0 w→Step (List.map (·.1) (L++D)) [(b13,blk 44 (u8s x)),(bm,blk 132 [vO,.map (some q1),.map (some q2)]),(q1,mapObj M1 c1)] w0 w:=fun h=>Step.k4 (by rw[←hX] at h;exact h)
    rw[hX] at hs
    have hby:=fun{w:World} (h:Step (List.map (·.1) (L++D)) ((b13,blk 44 (u8s x))::(Lw'++([(bu,blk 44 (digsL of++more))]++X))) w0 w)=>bytes_spec (u:=u) (s:=(s.get x).1) w hWr' (Step.own (L1:=Lw') (Step.pIn h)) (addAll_le _ [] 0 (by simp)) (hOv.slH fun p hp=>h.has p (by simp[hDX p hp])) (hOv.outside fun p hp=>(Step.append_comm (Step.pIn h)).disj p (by simp[hDX p hp])) (by omega)
    have htk:of.take (i+1)=of.take i++[x]:=by rw[take_add_one,hx];rfl
    refine CW.any (A:=fun w=>Step (List.map (·.1) (L++D)) [(b13,blk 44 (u8s x)),(bm,blk 132 [vO,.map (some q1),.map (some q2)]),(q1,mapObj M1 c1)] w0 w) (C:=fun w=>Step (List.map (·.1) (L++D)) [(b13,blk 44 (u8s x)),(bm,blk 132 [vO,.map (some q1),.map (some q2)]),(q1,mapObj M1 c1)] w0 w) 1000000 8 mixedP rfl ?_
    replace hs:=hs.drew
    refine aM 0 rfl<|aM 1 rfl<|aV 2 rfl (fun w hs=>run_nilCheck rfl)<|aV 3 rfl (fun w hs=>run_field (o':=1) u132 rfl ty129 rfl rfl rfl)<|aV 4 rfl (fun w hs=>run_load1 ty129 rfl (hs.c1 (v:=.map (some q1)) rfl))<|aV 5 rfl (fun w hs=>run_loadN ty44 rfl hxl hs.a0)<|aV 6 rfl (fun w hs=>run_lookupV u129 (zBytes _) hB.keys hx32 hu rfl rfl (hs.has (q1,mapObj M1 c1) (by simp)))<|AL.one 7 (by kernel_rfl) rfl (by exact hk3 hs) (by exact hk3 hs) ?_
    refine wE rfl (run_call en86 rfl rfl) (hby hs) ?_
    rintro e w ⟨rfl,Lw5,hW5,hq⟩
    refine⟨_,rfl,?_⟩
    replace hs:=Step.call (L1:=Lw') (Step.pIn hs) hq
    refine wZ<|⟨rfl,?_⟩
    refine AL.end (by kernel_rfl) (by exact hk4 hs) (by exact hk4 hs) ?_
    refine cr<|wV (run_add (c:=((i+1:Nat):Int)) rfl rfl (by omega) (by omega))<|wm<|wZ ?_
    have hs2:=Step.pOut hs
    rw[←hX] at hs2
    refine(show _∧_ from⟨rfl,_,?_,i+1,Lw5,hlt,rfl,?_,hs2,rfl,rfl,rfl,rfl,rfl,rfl,trivial⟩)
    ·omega
    ·rw[htk,pcs_snoc,addAll_snoc];exact hW5
   ·cases h
  ·obtain rfl:i=of.length:=by omega
   rw[take_length] at hWr'
   refine sr<|wV (run_bF (run_lss rfl rfl) (by omega))<|wZ<|cq<|CW.cond rfl (fun h=>?_) (fun h=>?_)
   ·cases h
   refine CW.exit ?_
   exact⟨rfl,Lw',hWr',hs,rfl,rfl,trivial⟩
 clear hs
 rintro f w ⟨Lw4,hWr4,hs,hf⟩
 have ob:=hf.chain
 obtain⟨g,rfl⟩:=ob
 have hal:=addAll_ok (pcs s of.length of) [] (by simp)
 rw[pcs_packB,length_nil,Nat.zero_add,nil_append] at hal
 by_cases hfit:(packB s.k (of.map fun d=>(s.get d).1)).length≤4194304
 ·have hre:packR s r of=(packB s.k (of.map fun d=>(s.get d).1),0):=by rw[packR,if_neg he,if_pos hfit]
  rw[hre]
  rw[hal.2 hfit,hal.1,if_pos hfit] at hWr4
  refine sr<|wm<|wE rfl (run_call en87 rfl rfl) (done_ok _ hWr4 (Step.own hs) hfit) ?_
  rintro e w ⟨v',Lv',rfl,hv',hq⟩
  refine⟨_,rfl,?_⟩
  replace hs:=Step.call0 hs hq
  refine wx rfl rfl<|wx rfl rfl<|wA<|wA<|wZ<|CW.ret ?_
  refine fin_ret2 rfl ?_
  exact⟨v',Lv',L1,M++D1,rfl,by rw[append_assoc];exact hP.mono mem_right,hv',Step.fin (M:=Lv') hw (by rw[append_assoc];exact Step.kDrop hs)⟩
 ·have hre:packR s r of=([],2):=by rw[packR,if_neg he,if_neg hfit]
  rw[hre]
  rw[hal.1,if_neg hfit] at hWr4
  refine sr<|wm<|wE rfl (run_call en87 rfl rfl) (done_bad _ hWr4 (Step.own hs) (by decide)) ?_
  rintro e w ⟨rfl,hq⟩
  refine⟨_,rfl,?_⟩
  replace hs:=hs.callE hq
  refine wx rfl rfl<|wx rfl rfl<|wA<|wA<|wZ<|CW.ret ?_
  refine fin_ret2 rfl ?_
  exact⟨_,[],L1,M++D1,rfl,by rw[append_assoc];exact hP.mono mem_right,OwnSl.nil _ _,Step.fin (M:=[]) hw (by rw[append_assoc];exact Step.dropL (L1:=Lo) (Step.dropL (L1:=Lw4) hs))⟩
end
end Go.Gx
namespace Go.Gx
open Go.Proofs List
theorem doneR_long{v:Value}{l:List Wit} (w0:World) (hl:Sl w0 3 v l.length (rowsI l)) (hok:∀x∈l,x.ok w0) (hsum:4194304<(l.flatMap Wit.put).length) (hlen:l.length≤4398046511104) (hput:∀x∈l,x.put.length≤1099511627776) :
  CP 101 #[v] w0 (Ret0 (.tuple #[.slice none 0 0,.int .i64 2]) w0):=by
 have hs:Step [] [] w0 w0:=Step.refl w0
 obtain⟨a,c,rfl⟩:∃a c,v=.slice a l.length c:=by
  obtain⟨_,⟨_,c,rfl,h0⟩ | ⟨b,off,c,rfl,_⟩⟩:=hl
  ·exact⟨_,_,by rw[h0]⟩
  ·exact⟨_,_,rfl⟩
 refine calls (n:=42) Tryz.func101 rfl rfl rfl ?_
 refine sr<|wA<|wA<|wZ<|sr<|wA<|wZ<|cq<|sr<|wA<|wZ<|cB ?_
 refine CW.loop (fun m f w'=>∃k v Lv,k≤l.length∧m=l.length - k∧((l.take k).flatMap Wit.put).length≤4194304∧OwnSl 5 1 v ((l.take k).flatMap Wit.put).length (u8s ((l.take k).flatMap Wit.put)) Lv∧Step [] Lv w0 w'∧Holds f [(0,.slice a l.length c),(4,v),(5,.int .i64 k)]) (m:=l.length) ?_ ?_
 ·exact⟨0,_,[],by omega,by omega,by simp,.nil _ _,hs,rfl,rfl,rfl,trivial⟩
 ·rintro m f w ⟨k,v,Lv,hk,rfl,hfit,hv,hs,hf⟩
  have ob:=hf.chain
  obtain⟨g,rfl⟩:=ob
  have ob:=hv.form
  obtain⟨va,vc,rfl⟩:=ob
  have hcap:=Wit.put_len_take (l:=l) k
  refine cq<|sr<|wm<|wm<|wV (run_lenSl u190 rfl)<|wV (run_lss rfl rfl)<|wZ<|CW.condP rfl (fun h=>?_) (fun h=>?_)
  ·have hlt:k<l.length:=by omega
   obtain⟨_,⟨_,c1,h1,h0⟩ | ⟨lb,lo,c1,h1,hat⟩⟩:=hl
   ·omega
   injection h1 with h1 _ _
   subst h1
   have hax:=hat.item hlt
   have hxo:=hok _ (getElem_mem hlt)
   have hpx:=hput _ (getElem_mem hlt)
   have hcap':=Wit.put_len_take (l:=l) (k+1)
   have hfm:(l.take (k+1)).flatMap Wit.put=(l.take k).flatMap Wit.put++(l[k]).put:=by rw[take_succ_eq_append_getElem hlt,flatMap_append];simp
   rw[hfm,length_append] at hcap'
   generalize hX:l[k]=x at *
   by_cases h1:x.k=1
   ·refine ck<|cq<|cB<|cq<|sr<|wm<|wm<|wV (run_ixSlN u190 ty188 rfl rfl (by omega))<|wF 0 u188 rfl ty3 rfl<|wl ty3 rfl (((hax.step hs.clear (by simp)).cell rfl))<|wV (run_bT (run_eql rfl rfl) (by exact h1))<|wm<|wy<|wm<|wy<|wm<|wy<|wV (run_ixSlN u190 ty188 rfl rfl (by omega))<|wy<|wF 1 u188 rfl ty3 rfl<|wy<|wl ty3 rfl (((hax.step hs.clear (by simp)).cell (j:=1) rfl))<|wy<|wV (run_bF (run_lss rfl rfl) (by omega))<|wV (run_pickT rfl)<|wZ ?_
    refine cF rfl<|ck<|sr<|wm<|wm<|wV (run_ixSlN u190 ty188 rfl rfl (by omega))<|wV (run_loadN ty188 rfl rfl (hax.step hs.clear (by simp)))<|wE rfl (run_call en145 rfl rfl) (put_spec _ (hxo.step hs.clear (.inr (outside_nil _)))) ?_
    rintro e w ⟨v',Lv',rfl,hv',hq⟩
    refine⟨_,rfl,?_⟩
    refine wA<|wZ ?_
    have ob:=hv'.form
    obtain⟨va',vc',rfl⟩:=ob
    replace hs:=(hs.call0 hq).append_comm
    by_cases hf2:((l.take k).flatMap Wit.put).length+x.put.length≤4194304
    ·refine cq<|sr<|wm<|wV (run_lenSl u76 rfl)<|wm<|wV (run_lenSl u76 rfl)<|wV (run_add rfl rfl rfl (by omega))<|wV (run_bF (run_gtr rfl rfl) (by omega))<|wZ<|cF rfl<|ck<|cr<|wm<|wm ?_
     refine WL.append u76 u76 ty5 rfl (by decide) rfl rfl (hv) (hs) (hv'.sl hs.append_comm) (Cells1.u8s _) (by omega) rfl (fun v40 Lv40 w hv40 hs=>?_)
     refine wA<|wZ<|cr<|wm<|wV (run_add (c:=((k+1:Nat):Int)) rfl rfl (by omega) (by omega))<|wA<|wZ<|(show _∧_ from⟨rfl,_,?_,k+1,_,_,by omega,rfl,?_,?_,hs.dropR,rfl,rfl,rfl,trivial⟩)
     ·omega
     ·rw[hfm,length_append];exact hf2
     ·rw[hfm,length_append,u8s_append]
      exact hv40
    ·refine cq<|sr<|wm<|wV (run_lenSl u76 rfl)<|wm<|wV (run_lenSl u76 rfl)<|wV (run_add rfl rfl rfl (by omega))<|wV (run_bT (run_gtr rfl rfl) (by omega))<|wZ<|CW.cond rfl (fun h=>?_) (fun h=>?_)
     ·refine sr<|wA<|wA<|wZ<|CW.ret ?_
      refine fin_ret2 rfl ?_
      exact⟨rfl,hs.clear⟩
     ·cases h
   ·refine ck<|cq<|cB<|cq<|sr<|wm<|wm<|wV (run_ixSlN u190 ty188 rfl rfl (by omega))<|wF 0 u188 rfl ty3 rfl<|wl ty3 rfl (((hax.step hs.clear (by simp)).cell rfl))<|wV (run_bF (run_eql rfl rfl) (by exact h1))<|wm<|wz<|wz<|wz<|wz<|wz<|wz<|wV (run_pickF rfl)<|wZ ?_
    refine cF rfl<|ck<|sr<|wm<|wm<|wV (run_ixSlN u190 ty188 rfl rfl (by omega))<|wV (run_loadN ty188 rfl rfl (hax.step hs.clear (by simp)))<|wE rfl (run_call en145 rfl rfl) (put_spec _ (hxo.step hs.clear (.inr (outside_nil _)))) ?_
    rintro e w ⟨v',Lv',rfl,hv',hq⟩
    refine⟨_,rfl,?_⟩
    refine wA<|wZ ?_
    have ob:=hv'.form
    obtain⟨va',vc',rfl⟩:=ob
    replace hs:=(hs.call0 hq).append_comm
    by_cases hf2:((l.take k).flatMap Wit.put).length+x.put.length≤4194304
    ·refine cq<|sr<|wm<|wV (run_lenSl u76 rfl)<|wm<|wV (run_lenSl u76 rfl)<|wV (run_add rfl rfl rfl (by omega))<|wV (run_bF (run_gtr rfl rfl) (by omega))<|wZ<|cF rfl<|ck<|cr<|wm<|wm ?_
     refine WL.append u76 u76 ty5 rfl (by decide) rfl rfl (hv) (hs) (hv'.sl hs.append_comm) (Cells1.u8s _) (by omega) rfl (fun v40 Lv40 w hv40 hs=>?_)
     refine wA<|wZ<|cr<|wm<|wV (run_add (c:=((k+1:Nat):Int)) rfl rfl (by omega) (by omega))<|wA<|wZ<|(show _∧_ from⟨rfl,_,?_,k+1,_,_,by omega,rfl,?_,?_,hs.dropR,rfl,rfl,rfl,trivial⟩)
     ·omega
     ·rw[hfm,length_append];exact hf2
     ·rw[hfm,length_append,u8s_append]
      exact hv40
    ·refine cq<|sr<|wm<|wV (run_lenSl u76 rfl)<|wm<|wV (run_lenSl u76 rfl)<|wV (run_add rfl rfl rfl (by omega))<|wV (run_bT (run_gtr rfl rfl) (by omega))<|wZ<|CW.cond rfl (fun h=>?_) (fun h=>?_)
     ·refine sr<|wA<|wA<|wZ<|CW.ret ?_
      refine fin_ret2 rfl ?_
      exact⟨rfl,hs.clear⟩
     ·cases h
  ·obtain rfl:k=l.length:=by omega
   rw[take_length] at hfit
   omega
def pkI (k n:Nat) (B:List (Value×List UInt8)):List Wit:=[⟨1,5,.slice none 0 0,[]⟩,⟨1,k,.slice none 0 0,[]⟩,⟨1,n,.slice none 0 0,[]⟩]++B.map fun t=>⟨4,0,t.1,t.2⟩
theorem pkI_snoc (k n:Nat) (B:List (Value×List UInt8)) (t:Value×List UInt8):pkI k n (B++[t])=pkI k n B++[⟨4,0,t.1,t.2⟩]:=by simp[pkI]
theorem pkI_put (k:Nat) (B:List (Value×List UInt8)):(pkI k B.length B).flatMap Wit.put=packB k (B.map (·.2)):=by
 have h:∀B:List (Value×List UInt8),(B.map fun t=>(⟨4,0,t.1,t.2⟩:Wit)).flatMap Wit.put=(B.map (·.2)).flatMap fun x=>formB x.length++x:=by
  intro B
  induction B with
  | nil=>rfl
  | cons x B ih=>rw[map_cons,flatMap_cons,ih,map_cons,flatMap_cons];rfl
 rw[pkI,flatMap_append,h,packB,length_map]
 simp[Wit.put]
theorem pkI_ok{w:World}{k n:Nat}{B:List (Value×List UInt8)} (hk:k≤9223372036854775807) (hn:n≤9223372036854775807) (hB:∀t∈B,t.2.length≤70368744177664∧Sl w 1 t.1 t.2.length (u8s t.2)):∀x∈pkI k n B,x.ok w:=by
 intro x hx
 rcases mem_append.1 hx with hx | hx
 ·simp only[mem_cons,not_mem_nil,or_false] at hx
  rcases hx with rfl | rfl | rfl
  ·exact .inl ⟨rfl,by decide,rfl⟩
  ·exact .inl ⟨rfl,hk,rfl⟩
  ·exact .inl ⟨rfl,hn,rfl⟩
 ·have ob:=mem_map.1 hx
  obtain⟨t,ht,rfl⟩:=ob
  exact .inr ⟨.inl rfl,rfl,(hB t ht).1,(hB t ht).2⟩
def packE (b:List UInt8):List UInt8×Int:=if b.length≤4194304 then (b,0) else ([],2)
theorem pkI_len (k n:Nat) (B:List (Value×List UInt8)):(pkI k n B).length=B.length+3:=by simp[pkI]
theorem rowsI_snoc (l:List Wit) (x:Wit):rowsI (l++[x])=rowsI l++x.cells:=by simp[rowsI]
set_option maxHeartbeats 4000000 in
theorem packedR_spec{v:Value}{B:List (Value×List UInt8)}{k:Nat} (w0:World) (hv:Sl w0 1 v B.length (B.map (·.1))) (hB:∀t∈B,t.2.length≤67108864∧Sl w0 1 t.1 t.2.length (u8s t.2)) (hBl:B.length≤65536) (hk:k≤32) :
  CP 47 #[.int .i64 (k:Nat),v] w0 fun e w'=>∃u Lu,e=.returned (.tuple #[u,.int .i64 (packE (packB k (B.map (·.2)))).2])∧OwnSl 5 1 u (packE (packB k (B.map (·.2)))).1.length (u8s (packE (packB k (B.map (·.2)))).1) Lu∧Step [] Lu w0 w':=by
 have hs:Step [] [] w0 w0:=Step.refl w0
 have ob:=hv.form
 obtain⟨a,c,rfl⟩:=ob
 refine calls (n:=33) Tryz.func47 rfl rfl rfl ?_
 refine sr<|wA<|wA<|wZ<|sr<|wV (run_build rfl (bld_num _ _ _))<|wm<|wV (run_build rfl (bld_num _ _ _))<|wm<|wV (run_lenSl u24 rfl)<|wV (run_build rfl (bld_num _ _ _))<|WL.buildSlice (cs:=[.int .i64 1,.int .i64 5,.slice none 0 0,.int .i64 1,.int .i64 (k:Nat),.slice none 0 0,.int .i64 1,.int .i64 (B.length:Nat),.slice none 0 0]) u190 ty188 rfl (by decide) rfl (filled3 _ _ _ _ _ _ _ _ _ _ _ _) rfl hs (fun b14 w hs=>?_)
 refine wA<|wZ<|cq<|sr<|wA<|wZ ?_
 have hv0:OwnSl 188 3 (.slice (some ⟨b14,0,none⟩) 3 3) (pkI k B.length (B.take 0)).length (rowsI (pkI k B.length (B.take 0))) [(b14,blk 188 (rowsI (pkI k B.length [])))]:=OwnSl.mk (b:=b14) (xs:=rowsI (pkI k B.length [])) (k:=3) rfl
 refine cB<|CW.loop (fun z f w'=>∃i vI LI,i≤B.length∧z=B.length - i∧OwnSl 188 3 vI (pkI k B.length (B.take i)).length (rowsI (pkI k B.length (B.take i))) LI∧Step [] LI w0 w'∧Holds f [(1,.slice a B.length c),(6,vI),(7,.int .i64 (i:Nat))]) (m:=B.length) ?_ ?_
 ·exact⟨0,_,_,Nat.zero_le _,rfl,hv0,hs,rfl,rfl,rfl,trivial⟩
 clear hs hv0
 rintro z f w ⟨i,vI,LI,hi,rfl,hvI,hs,hf⟩
 have ob:=hf.chain
 obtain⟨g,rfl⟩:=ob
 have hpl:=pkI_len k B.length (B.take i)
 rw[length_take] at hpl
 by_cases hlt:i<B.length
 ·have ob:∃t,B[i]?=some t:=⟨_,getElem?_eq_getElem hlt⟩
  obtain⟨t,ht⟩:=ob
  have ob:=sl_at1 (c:=fun t:Value×List UInt8=>t.1) hv ht
  obtain⟨bb,bo,bc,hbe,hbc⟩:=ob
  cases hbe
  have ob:=hB t (mem_of_getElem? ht)
  obtain⟨htl,hts⟩:=ob
  have ob:=hts.form
  obtain⟨ta,tc,hte⟩:=ob
  have htk:B.take (i+1)=B.take i++[t]:=by rw[take_add_one,ht];rfl
  refine cq<|sr<|wm<|wm<|wV (run_lenSl u24 rfl)<|wV (run_bT (run_lss rfl rfl) (by omega))<|wZ<|CW.cond rfl (fun h=>?_) (fun h=>?_)
  ·refine ck<|cq<|cB<|cr<|wm<|wm<|wm<|wV (run_ixSlN u24 ty76 rfl rfl (by omega))<|wl ty76 rfl (((keepCell hbc hs.clear).trans (congrArg some hte)))<|wV (run_build rfl (bld_bytes _ _ _ _ _))<|WL.buildSlice (cs:=[.int .i64 4,.int .i64 0,.slice ta t.2.length tc]) u190 ty188 rfl (by decide) rfl (filled1 rfl rfl) rfl hs (fun b27 w hs=>?_)
   have hsl27:Sl w 3 (.slice (some ⟨b27,0,none⟩) 1 1) 1 [.int .i64 4,.int .i64 0,.slice ta t.2.length tc]:=.own1 hs rfl
   replace hs:=Step.rot1 hs
   refine WL.append u190 u190 ty188 rfl (by decide) rfl rfl (hvI) (hs) (hsl27) (Cells1.of_all rfl) (by omega) rfl (fun v28 Lv28 w hv28 hs=>?_)
   replace hs:=Step.dropR hs
   refine wA<|wZ<|cr<|wm<|wV (run_add (c:=((i+1:Nat):Int)) rfl rfl (by omega) (by omega))<|wA<|wZ<|(show _∧_ from⟨rfl,_,?_,i+1,v28,Lv28,hlt,rfl,?_,hs,rfl,rfl,rfl,trivial⟩)
   ·omega
   ·rw[htk,pkI_snoc,length_append,rowsI_snoc]
    show OwnSl _ _ _ _ (_++[.int .i64 4,.int .i64 (0:Nat),t.1]) _
    rw[hte];exact hv28
  ·cases h
 ·obtain rfl:i=B.length:=by omega
  rw[take_length] at hvI hpl
  refine cq<|sr<|wm<|wm<|wV (run_lenSl u24 rfl)<|wV (run_bF (run_lss rfl rfl) (by omega))<|wZ<|CW.cond rfl (fun h=>?_) (fun h=>?_)
  ·cases h
  have hput:=pkI_put k B
  have hok:=pkI_ok (w:=w) (k:=k) (n:=B.length) (B:=B) (by omega) (by omega) fun t ht=>⟨by have:=(hB t ht).1;omega,(hB t ht).2.step0 hs⟩
  have hsl:=hvI.sl (L:=[]) (by rw[append_nil];exact hs)
  by_cases hfit:(packB k (B.map (·.2))).length≤4194304
  ·have he:packE (packB k (B.map (·.2)))=(packB k (B.map (·.2)),0):=if_pos hfit
   rw[he]
   have hdn:=doneR_spec w hsl hok (by rw[hput];exact hfit) (by omega)
   rw[hput] at hdn
   refine CW.exit<|sr<|wm<|wE rfl (run_call en101 rfl rfl) (hdn) ?_
   rintro e w ⟨u,Lu,rfl,hu,hq⟩
   refine⟨_,rfl,?_⟩
   replace hs:=Step.call0 hs hq
   refine wx rfl rfl<|wx rfl rfl<|wA<|wA<|wZ<|CW.ret ?_
   refine fin_ret2 rfl ?_
   exact⟨u,Lu,rfl,hu,Step.dropR (L1:=Lu) hs⟩
  ·have he:packE (packB k (B.map (·.2)))=([],2):=if_neg hfit
   rw[he]
   have hdn:=doneR_long w hsl hok (by rw[hput];omega) (by omega) (fun x hx=>by
    rcases mem_append.1 hx with hx | hx
    ·simp only[mem_cons,not_mem_nil,or_false] at hx
     have h5:=formB_len 5
     have hkl:=formB_len k
     have hnl:=formB_len B.length
     rcases hx with rfl | rfl | rfl
     ·show(formB 5).length≤_;omega
     ·show(formB k).length≤_;omega
     ·show(formB B.length).length≤_;omega
    ·have ob:=mem_map.1 hx
     obtain⟨t,ht,rfl⟩:=ob
     have h1:=formB_len t.2.length
     have h2:=(hB t ht).1
     show(formB t.2.length++t.2).length≤_
     rw[length_append];omega)
   refine CW.exit<|sr<|wm<|wE rfl (run_call en101 rfl rfl) (hdn) ?_
   rintro e w ⟨rfl,hq⟩
   refine⟨_,rfl,?_⟩
   replace hs:=hs.callE hq
   refine wx rfl rfl<|wx rfl rfl<|wA<|wA<|wZ<|CW.ret ?_
   refine fin_ret2 rfl ?_
   exact⟨_,[],rfl,OwnSl.nil _ _,hs.clear⟩
end Go.Gx
namespace Go.Gx
open Go.Proofs List
attribute [local irreducible] shaL cutD frontL
theorem packR_ok{s:AS}{r:Int×WS}{of:List (List UInt8)} (h:r.1=0):packR s r of=packE (packB s.k (of.map fun d=>(s.get d).1)):=by rw[packR,if_neg (fun hh=>hh h)];rfl
theorem Step.k5{S:List Nat}{A B C E X:List (Nat×Obj)}{w w':World} (h:Step S (A++(B++(C++(E++X)))) w w'):Step S (A++X) w w':=Step.dropL (L1:=B++(C++E)) (h.perm (by classical exact perm_iff_count.2 fun x=>by simp only[count_append];omega))
theorem Step.k6{S:List Nat}{A B C X:List (Nat×Obj)}{w w':World} (h:Step S (A++(B++(C++X))) w w'):Step S (B++((A++C)++X)) w w':=h.perm (by classical exact perm_iff_count.2 fun x=>by simp only[count_append];omega)
section
variable{br:Nat}{s:AS}{D R:List (Nat×Obj)}{d:List UInt8}{w0:World}{rn rd rb:Int}{N k:Nat}{gf of:List (List UInt8)}
set_option maxHeartbeats 8000000 in
theorem packDR_spec (hR:RRep br s D R) (ok:s.Ok) (hfew:s.Few N) (hN:N<1000000000000) (hd:d.length=32) (hrm:(rmOf rn rd rb).Ok) (hG:(runs s (rmOf rn rd rb) [rootS d] ws0).1=0→Goes (partsM s (runs s (rmOf rn rd rb) [rootS d] ws0).2.m) [d] [] [] gf of k) (hw:Lives (R++D) w0) :
  CP 39 #[.pointer (some ⟨br,0,none⟩),.agg (u8s d).toArray,.agg #[.int .i64 rn,.int .i64 rd,.int .i64 rb]] w0 fun e w'=>∃v Lv R' D',e=.returned (.tuple #[v,.int .i64 (packR s (runs s (rmOf rn rd rb) [rootS d] ws0) of).2])∧
   RRep br (s.gotN (runs s (rmOf rn rd rb) [rootS d] ws0).2.g) (D'++D) R'∧OwnSl 5 1 v (packR s (runs s (rmOf rn rd rb) [rootS d] ws0) of).1.length (u8s (packR s (runs s (rmOf rn rd rb) [rootS d] ws0) of).1) Lv∧Step (R.map (·.1)) (R'++(Lv++D')) w0 w':=by
 have hw9:=fun{w1:World} h=>walkR_spec (w0:=w1) hR ok hfew hN hd hrm h
 have hmet:=fun{t:WS} h=>runs_met (s:=s) (rm:=rmOf rn rd rb) (t:=t) hd h
 have hgd:=standP_good (s:=s) (rm:=rmOf rn rd rb) hrm 34 (x:=rootS d) (t:=ws0) (ws0_good.mono (by omega))
 have hM32:=root_M32 (s:=s) (rm:=rmOf rn rd rb) hd
 rw[←runs_root] at hgd hM32
 have ob:∃r,runs s (rmOf rn rd rb) [rootS d] ws0=r:=⟨_,rfl⟩
 obtain⟨r,hr⟩:=ob
 rw[hr] at hw9 hG hgd hM32⊢
 have hdl:(u8s d).length=32:=by rw[u8s,length_map,hd]
 have hs:Step (List.map (·.1) (R++D)) (R++D) w0 w0:=hw
 by_cases he:r.1≠0
 ·have hre:packR s r of=([],r.1):=if_pos he
  rw[hre]
  rw[if_neg he] at hw9
  refine calls (n:=55) Tryz.func39 rfl rfl rfl ?_
  refine sr<|WL.box (cs:=u8s d) rfl rfl rfl hs (fun b4 w hs=>?_)
  refine WL.box (cs:=[.int .i64 rn,.int .i64 rd,.int .i64 rb]) rfl rfl rfl hs (fun b5 w hs=>?_)
  refine wA<|wA<|wZ<|sr<|wm<|wV (run_loadN ty44 rfl hdl hs.a1)<|wV (run_loadN ty30 rfl rfl hs.a0)<|wE rfl (run_call en65 rfl rfl) (hw9 (Lives.mk hs.tail.tail)) ?_
  rintro e w ⟨v,Lv,R1,D1,rfl,hR1,hvm,hq⟩
  refine⟨_,rfl,?_⟩
  replace hs:=Own.put (A:=[_,_]) (L:=R) hs hq
  refine wm<|wx rfl rfl<|wx rfl rfl<|wA<|wA<|wZ ?_
  replace hs:=hs.tail.tail
  refine cq<|sr<|wm<|wV (run_bT (run_neq rfl rfl) (by exact he))<|wZ<|CW.cond rfl (fun h=>?_) (fun h=>?_)
  ·refine sr<|wm<|wA<|wA<|wZ<|CW.ret ?_
   refine fin_ret2 rfl ?_
   exact⟨_,[],R1,Lv++D1,rfl,by rw[append_assoc];exact hR1.mono mem_right,OwnSl.nil _ _,Step.fin (M:=[]) hw hs⟩
  ·cases h
 have he0:r.1=0:=by simpa using he
 have hmet:=hmet (t:=r.2) (by rw[hr,←he0])
 have hgd:=hgd he0
 have hM32:=hM32 he0
 have hml:r.2.m.length≤65536:=Nat.le_trans hgd.m hgd.n
 have ob:=hmet.of_le (hG he0)
 obtain⟨hol,hofU⟩:=ob
 rw[packR_ok he0]
 rw[if_pos he0] at hw9
 refine calls (n:=55) Tryz.func39 rfl rfl rfl ?_
 refine sr<|WL.box (cs:=u8s d) rfl rfl rfl hs (fun b4 w hs=>?_)
 refine WL.box (cs:=[.int .i64 rn,.int .i64 rd,.int .i64 rb]) rfl rfl rfl hs (fun b5 w hs=>?_)
 refine wA<|wA<|wZ<|sr<|wm<|wV (run_loadN ty44 rfl hdl hs.a1)<|wV (run_loadN ty30 rfl rfl hs.a0)<|wE rfl (run_call en65 rfl rfl) (hw9 (Lives.mk hs.tail.tail)) ?_
 rintro e w ⟨v,Lv,R1,D1,rfl,hR1,hvm,hq⟩
 refine⟨_,rfl,?_⟩
 replace hs:=Own.put (A:=[_,_]) (L:=R) hs hq
 refine wm<|wx rfl rfl<|wx rfl rfl<|wA<|wA<|wZ ?_
 replace hs:=hs.tail.tail
 refine cq<|sr<|wm<|wV (run_bF (run_neq rfl rfl) (by exact he))<|wZ<|CW.cond rfl (fun h=>?_) (fun h=>?_)
 ·cases h
 rw[append_assoc] at hs
 have hR2:RRep br (s.gotN r.2.g) (Lv++(D1++D)) R1:=hR1.mono mem_right
 refine ck<|sr<|wm<|wm<|wE rfl (run_call en71 rfl rfl) (behindR_spec hR2 (ok.gotN _) (⟨hmet.head,hmet.got,hmet.len,hmet.sub⟩:Met (s.gotN r.2.g) d r.2.m) hvm (fun p hp=>mem_append_left _ hp) hml hM32 (partsM_len _ _) (hG he0) (Lives.mk hs)) ?_
 rintro e w ⟨vo,Lo,rfl,hvo,hq⟩
 refine⟨_,rfl,?_⟩
 replace hs:=Step.call0 hs hq
 refine wA<|wZ ?_
 have ob:=hvo.form
 obtain⟨oa,oc,rfl⟩:=ob
 refine sr<|wA<|wZ<|cq<|sr<|wA<|wZ<|cB<|CW.loop (fun z f w'=>∃(i:Nat) (vB:Value) (LvB:List (Nat×Obj)) (B:List (Value×List UInt8)) (LB:List (Nat×Obj)),i≤of.length∧z=of.length - i∧B.map (·.2)=(of.take i).map (fun d=>(s.get d).1)∧(∀t∈B,Held LB t.1 t.2)∧OwnSl 76 1 vB B.length (B.map (·.1)) LvB∧Step (List.map (·.1) (R++D)) (LvB++(LB++(Lo++(R1++(Lv++(D1++D)))))) w0 w'∧Holds f [(0,.pointer (some ⟨br,0,none⟩)),(10,.slice oa of.length oc),(11,vB),(12,.int .i64 (i:Nat))]) (m:=of.length) ?_ ?_
 ·exact⟨0,.slice none 0 0,[],([]:List (Value×List UInt8)),[],Nat.zero_le _,rfl,rfl,(fun t ht=>by cases ht),OwnSl.nil _ _,hs,rfl,rfl,rfl,rfl,trivial⟩
 clear hs
 rintro z f w ⟨i,vB,LvB,B,LB,hil,rfl,hB2,hBH,hvB,hs,hf⟩
 have ob:=hf.chain
 obtain⟨g,rfl⟩:=ob
 have hBl:B.length=i:=by rw[←length_map (f:=(·.2)),hB2,length_map,length_take];omega
 by_cases hlt:i<of.length
 ·have ob:∃x,of[i]?=some x:=⟨_,getElem?_eq_getElem hlt⟩
  obtain⟨x,hx⟩:=ob
  have hxU:=hofU x (mem_of_getElem? hx)
  have hx32:=hmet.len x hxU
  have hxl:(u8s x).length=32:=by rw[u8s,length_map,hx32]
  have hgx:=get_len ok x
  have hg0:(s.get x).2=0:=by
   rw[ordM_mem] at hxU
   have ob:=mem_map.1 hxU
   obtain⟨p,hp,rfl⟩:=ob
   exact hmet.got p hp
  have hraw:(s.gotN r.2.g).raw x=(s.get x).1:=get_raw hg0
  have ob:=hvo.some1 (by omega)
  obtain⟨bu,cu,more,hu1,hu2,hu3⟩:=ob
  cases hu1
  subst hu2
  have hxat:At w bu (0+i*32) (u8s x):=digsL_at (fun y hy=>hmet.len y (hofU y hy)) (At.of_blk (hs.has (bu,blk 44 (digsL of++more)) (by simp))).left hx
  have hrw:=fun{w1:World} h=>rraw_abs (w0:=w1) hR2 (ok.gotN _) h hx32
  rw[hraw] at hrw
  have htk:of.take (i+1)=of.take i++[x]:=by rw[take_add_one,hx];rfl
  refine cq<|sr<|wm<|wm<|wV (run_lenSl u35 rfl)<|wV (run_bT (run_lss rfl rfl) (by omega))<|wZ<|CW.cond rfl (fun h=>?_) (fun h=>?_)
  ·refine ck<|cq<|cB<|sr<|wm<|wm<|wm<|wV (run_ixSlN u35 ty44 rfl rfl (by omega))<|wV (run_loadN ty44 rfl hxl hxat)<|wE rfl (run_call en72 rfl rfl) (hrw (Lives.mk (Step.dropL (L1:=[_]) (Step.dropL (L1:=LB) (Step.dropL (L1:=LvB) hs))))) ?_
   rintro e w ⟨vb,Lb,rfl,hvb,hq⟩
   refine⟨_,rfl,?_⟩
   replace hs:=Step.call0 hs hq
   refine wm<|wx rfl rfl<|wx rfl rfl<|wA<|wA<|wZ ?_
   have ob:=hvb.form
   obtain⟨ra,rc,rfl⟩:=ob
   replace hs:=Step.k6 hs
   refine cr<|wm<|wm<|WL.buildSlice (cs:=[.slice ra (s.get x).1.length rc]) u24 ty76 rfl (by decide) rfl (filled1 rfl rfl) rfl hs (fun b45 w hs=>?_)
   have hsl45:Sl w 1 (.slice (some ⟨b45,0,none⟩) 1 1) 1 [.slice ra (s.get x).1.length rc]:=.own1 hs rfl
   replace hs:=Step.pIn hs
   refine WL.append u24 u24 ty76 rfl (by decide) rfl rfl (hvB) (hs) (hsl45) (Cells1.of_all rfl) (by omega) rfl (fun v46 Lv46 w hv46 hs=>?_)
   replace hs:=Step.pOut hs
   refine wA<|wZ<|cr<|wm<|wV (run_add (c:=((i+1:Nat):Int)) rfl rfl (by omega) (by omega))<|wA<|wZ<|(show _∧_ from⟨rfl,_,?_,i+1,v46,Lv46,B++[(.slice ra (s.get x).1.length rc,(s.get x).1)],Lb++LB,hlt,rfl,?_,?_,?_,hs,rfl,rfl,rfl,rfl,trivial⟩)
   ·omega
   ·rw[map_append,hB2,htk,map_append];rfl
   ·intro t ht
    rcases mem_append.1 ht with ht | ht
    ·exact(hBH t ht).mono fun p hp=>mem_append_right _ hp
    ·obtain rfl:=mem_singleton.1 ht
     exact⟨Lb,hvb,fun p hp=>mem_append_left _ hp⟩
   ·rw[length_append,map_append];exact hv46
  ·cases h
 ·obtain rfl:i=of.length:=by omega
  rw[take_length] at hB2
  have ob:=hR2.look ok.len
  obtain⟨ra,rc,_,hlk⟩:=ob
  have hpk:=packedR_spec (v:=vB) (B:=B) (k:=s.k) w (hvB.sl hs) (fun t ht=>by
   have ob:=hBH t ht
   obtain⟨Lt,h1,h2⟩:=ob
   refine⟨?_,h1.slH fun p hp=>hs.has p (by simp[h2 p hp])⟩
   have h3:=mem_map_of_mem (f:=(·.2)) ht
   rw[hB2] at h3
   have ob:=mem_map.1 h3
   obtain⟨y,_,hy⟩:=ob
   have h4:=get_len ok y
   rw[hy] at h4
   exact Nat.le_trans h4 (by decide)) (by omega) ok.k2
  rw[hB2] at hpk
  have ob:∃q,packE (packB s.k (of.map fun d=>(s.get d).1))=q:=⟨_,rfl⟩
  obtain⟨q,hqe⟩:=ob
  rw[hqe] at hpk⊢
  rw[hBl] at hvB
  have ob:=hvB.form
  obtain⟨va,vc,rfl⟩:=ob
  refine cq<|sr<|wm<|wm<|wV (run_lenSl u35 rfl)<|wV (run_bF (run_lss rfl rfl) (by omega))<|wZ<|CW.cond rfl (fun h=>?_) (fun h=>?_)
  ·cases h
  refine CW.exit<|sr<|wm<|wn rfl<|wF 0 u54 rfl ty3 rfl<|wl ty3 rfl ((hlk (fun p hp=>hs.has p (by simp[hp]))).1.cell (j:=0) rfl)<|wm<|wE rfl (run_call en47 rfl rfl) (hpk) ?_
  rintro e w ⟨u,Lu,rfl,hu,hq⟩
  refine⟨_,rfl,?_⟩
  replace hs:=Step.call0 hs hq
  refine wx rfl rfl<|wx rfl rfl<|wA<|wA<|wZ<|CW.ret ?_
  refine fin_ret2 rfl ?_
  exact⟨u,Lu,R1,Lv++D1,rfl,by rw[append_assoc];exact hR2,hu,Step.fin (M:=Lu) hw (by rw[append_assoc];exact Step.k5 hs)⟩
end
section
variable{s:AS}{rm:Rm}{g:Nat}
theorem visit_gotN (x:Std) (t:WS):visit (s.gotN g) rm x t=visit s rm x t:=rfl
theorem standP_gotN:∀(n:Nat) (x:Std) (t:WS),standP (s.gotN g) rm n x t=standP s rm n x t
 | 0,_,_=>rfl
 | n+1,x,t=>by
  rw[standP,standP,visit_gotN]
  split
  ·rfl
  ·exact seqS_congr fun y _ u=>standP_gotN n y (push y u)
theorem runs_gotN (l:List Std) (t:WS):runs (s.gotN g) rm l t=runs s rm l t:=seqS_congr fun y _ u=>standP_gotN _ y (push y u)
end
def sweepW (s:AS) (rm:Rm):List (List UInt8)→Nat→List (List UInt8)→Int×Nat×List (List UInt8)
 | [],g,m=>(0,g,m)
 | d::l,g,m=>if (runs s rm [rootS d] ws0).1≠0 then ((runs s rm [rootS d] ws0).1,g+(runs s rm [rootS d] ws0).2.g,m) else sweepW s rm l (g+(runs s rm [rootS d] ws0).2.g) (m++ordM (runs s rm [rootS d] ws0).2.m)
def goneL (m l:List (List UInt8)):List (List UInt8):=l.filter fun d=>decide (d∉m)
def evAll (s:AS) (l:List (List UInt8)):AS:=l.foldl AS.evict s
def sweepR (s:AS) (rm:Rm) (roots:List (List UInt8)):Nat×Int×AS:=
 if 65536<roots.length then (0,2,s)
 else if (sweepW s rm roots 0 []).1≠0 then (0,(sweepW s rm roots 0 []).1,s.gotN (sweepW s rm roots 0 []).2.1)
 else ((goneL (sweepW s rm roots 0 []).2.2 (s.X.map (·.d))).length,0,evAll (s.gotN (sweepW s rm roots 0 []).2.1) (goneL (sweepW s rm roots 0 []).2.2 (s.X.map (·.d))))
theorem gotN_add (s:AS) (a b:Nat):(s.gotN a).gotN b=s.gotN (a+b):=by simp[AS.gotN,Nat.add_assoc]
section
variable{S:List Nat}{a b c e p q:Nat×Obj}{A B C X Y:List (Nat×Obj)}{w w':World}
end
section
variable{bp:Nat}{s:AS}{D L Lr:List (Nat×Obj)}{roots:List (List UInt8)}{v:Value}{w0:World}{rn rd rb:Int}{N:Nat}
end
end Go.Gx
namespace Go.Gx
open Go.Proofs Go.RowKit List
attribute [local irreducible] shaL cutD frontL
def nums (l:List Int):List Value:=l.map fun z=>.int .i64 z
structure Nums (w:World) (v:Value) (l:List Int):Prop where
 sl:Sl w 1 v l.length (nums l)
 rng:∀z∈l,-9223372036854775808≤z∧z≤9223372036854775807
 len:l.length≤9223372036854775807
section
variable{α:Type}{a b c e f:α}{A B C D:List α}
end
section
variable{wd rn rd rb:Int}{x:Stup}{v:Value}{l:List Int}
end
end Go.Gx
namespace Go.Gx
open Go.Proofs List
attribute [local irreducible] shaL cutD frontL decL decE
def slsh (p:List UInt8):Nat:=p.count 47
structure Pth (x:Std):Prop where
 z:x.dep=0→x.p=[]
 s:x.dep≠0→x.p≠[]∧slsh x.p+1=x.dep
 l:x.p.length≤65*x.dep
theorem name_slsh{n:List UInt8} (h:isName n=true):n≠[]∧slsh n=0:=by
 simp only[isName,Bool.and_eq_true,decide_eq_true_eq,Bool.not_eq_true',any_eq_false] at h
 refine⟨fun e=>?_,count_eq_zero.2 fun hm=>h.2 47 hm (by decide)⟩
 have:=h.1.1
 rw[e] at this
 simp at this
theorem Pth.kid{x:Std}{e:Ent} (h:Pth x) (hn:isName e.name=true):Pth (kidOf x e):=by
 have ob:=name_slsh hn
 obtain⟨h1,h2⟩:=ob
 have h3:=nameLe hn
 have h4:=joinP_le (p:=x.p) h3
 have hl:=h.l
 refine⟨fun h=>absurd h (Nat.succ_ne_zero _),fun _=>?_,?_⟩
 ·show joinP x.p e.name≠[]∧slsh (joinP x.p e.name)+1=x.dep+1
  by_cases hd:x.dep=0
  ·rw[h.z hd,hd]
   exact⟨h1,by show slsh e.name+1=_;rw[h2]⟩
  ·have ob:=h.s hd
   obtain⟨h5,h6⟩:=ob
   rw[joinP,if_neg h5]
   refine⟨by simp,?_⟩
   rw[slsh,count_append,count_cons]
   rw[slsh] at h2 h6
   rw[h2]
   simp only[beq_self_eq_true,if_true]
   omega
 ·show(joinP x.p e.name).length≤65*(x.dep+1)
  omega
structure PLe (t u:WS):Prop where
 n:t.n≤u.n
 b:t.b≤u.b
 l:∀i∈t.l,i∈u.l
theorem PLe.refl (t:WS):PLe t t:=⟨Nat.le_refl _,Nat.le_refl _,fun _ h=>h⟩
theorem PLe.trans{t u v:WS} (h:PLe t u) (k:PLe u v):PLe t v:=⟨Nat.le_trans h.n k.n,Nat.le_trans h.b k.b,fun i hi=>k.l i (h.l i hi)⟩
theorem push_ple (x:Std) (t:WS):PLe t (push x t):=by
 unfold push
 split
 ·exact⟨Nat.le_refl _,Nat.le_refl _,fun i hi=>mem_append_left _ hi⟩
 ·exact PLe.refl t
section
variable{s:AS}{rm rm':Rm}
theorem visit_ple (x:Std) (t:WS):PLe t (visit s rm x t).2.2:=by
 unfold visit
 split
 ·exact PLe.refl t
 ·split
  ·exact⟨Nat.le_succ _,Nat.le_refl _,fun _ h=>h⟩
  ·split
   ·exact⟨Nat.le_succ _,Nat.le_refl _,fun _ h=>h⟩
   ·split
    ·split
     ·exact⟨Nat.le_succ _,Nat.le_refl _,fun _ h=>h⟩
     ·exact⟨Nat.le_succ _,Nat.le_refl _,fun _ h=>h⟩
    ·split
     ·exact⟨Nat.le_succ _,Nat.le_add_right _ _,fun _ h=>h⟩
     ·exact⟨Nat.le_succ _,Nat.le_add_right _ _,fun i h=>mem_append_left _ h⟩
theorem seqS_ple{f:Std→WS→Int×WS} (hf:∀x t,PLe t (f x t).2):∀(l:List Std) (t:WS),PLe t (seqS f l t).2
 | [],t=>PLe.refl t
 | x::l,t=>by
  rw[seqS]
  split
  ·exact hf x t
  ·exact(hf x t).trans (seqS_ple hf l _)
theorem standP_ple:∀(n:Nat) (x:Std) (t:WS),PLe t (standP s rm n x t).2
 | 0,x,t=>PLe.refl t
 | n+1,x,t=>by
  rw[standP]
  split
  ·exact visit_ple x t
  ·exact(visit_ple x t).trans (seqS_ple (fun y u=>(push_ple y u).trans (standP_ple n y (push y u))) _ _)
theorem visit_room{x:Std}{t:WS} (h:(visit s rm x t).1=0):¬rm.d<x.dep∧(x.dir=false→(visit s rm x t).2.1=[]∧∃i∈(visit s rm x t).2.2.l,i.p=x.p)∧((visit s rm x t).2.1=[]∨(visit s rm x t).2.1=kids x (s.get x.d).1)∧
  ∀{rm':Rm},¬rm'.d<x.dep→((visit s rm x t).2.2.n:Int)≤rm'.n→((visit s rm x t).2.2.b:Int)≤rm'.b→visit s rm' x t=visit s rm x t:=by
 by_cases c1:rm.d<x.dep
 ·rw[visit,if_pos c1] at h;cases h
 by_cases c2:rm.n<(t.n:Int)+1
 ·rw[visit,if_neg c1,if_pos c2] at h;cases h
 by_cases c3:(s.get x.d).2≠0
 ·rw[visit,if_neg c1,if_neg c2,if_pos c3] at h
  exact absurd (Int.ofNat.inj h) c3
 by_cases c4:x.dir=true
 ·by_cases c5:decE (s.get x.d).1≠0
  ·rw[visit,if_neg c1,if_neg c2,if_neg c3,if_pos c4,if_pos c5] at h
   exact absurd h c5
  have e:∀rm:Rm,¬rm.d<x.dep→¬rm.n<(t.n:Int)+1→visit s rm x t=(0,kids x (s.get x.d).1,t.node.meet x):=fun rm k1 k2=>by rw[visit,if_neg k1,if_neg k2,if_neg c3,if_pos c4,if_neg c5]
  rw[e rm c1 c2]
  refine⟨c1,(fun hh=>by rw[hh] at c4;cases c4),.inr rfl,fun {rm'} hd hn hb=>?_⟩
  have h2:((t.n+1:Nat):Int)≤rm'.n:=hn
  exact e rm' hd (by omega)
 ·by_cases c5:rm.b<(t.b:Int)+(s.get x.d).1.length
  ·rw[visit,if_neg c1,if_neg c2,if_neg c3,if_neg c4,if_pos c5] at h;cases h
  have e:∀rm:Rm,¬rm.d<x.dep→¬rm.n<(t.n:Int)+1→¬rm.b<(t.b:Int)+(s.get x.d).1.length→visit s rm x t=(0,[],((t.node.meet x).byte (s.get x.d).1.length).item ⟨x.p,false,(s.get x.d).1⟩):=fun rm k1 k2 k3=>by rw[visit,if_neg k1,if_neg k2,if_neg c3,if_neg c4,if_neg k3]
  rw[e rm c1 c2 c5]
  refine⟨c1,fun _=>⟨rfl,_,mem_append_right _ (mem_singleton.2 rfl),rfl⟩,.inl rfl,fun {rm'} hd hn hb=>?_⟩
  have h2:((t.n+1:Nat):Int)≤rm'.n:=hn
  have h3:((t.b+(s.get x.d).1.length:Nat):Int)≤rm'.b:=hb
  exact e rm' hd (by omega) (by omega)
theorem kids_pth{x:Std}{y:List UInt8} (h:Pth x):∀z∈kids x y,Pth z∧z.dep=x.dep+1:=fun z hz=>by
 have ob:=mem_map.1 hz
 obtain⟨e,he,rfl⟩:=ob
 exact⟨h.kid (decL_name e he),rfl⟩
theorem push_item{x:Std} (hx:x.dir=true) (h0:x.dep≠0) (t:WS):∃i∈(push x t).l,i.p=x.p:=by
 rw[push,if_pos ⟨hx,h0⟩]
 exact⟨_,mem_append_right _ (mem_singleton.2 rfl),rfl⟩
theorem seqS_room {f f':Std→WS→Int×WS}{T:WS} (hf:∀x t,PLe t (f x t).2):∀(l:List Std) (t:WS),(∀y∈l,∀u,(f y u).1=0→PLe (f y u).2 T→f' y u=f y u)→(seqS f l t).1=0→PLe (seqS f l t).2 T→seqS f' l t=seqS f l t
 | [],t,_,_,_=>rfl
 | y::l,t,h,h0,hT=>by
  by_cases c:(f y t).1≠0
  ·rw[seqS,if_pos c] at h0
   exact absurd h0 c
  rw[seqS,if_neg c] at h0 hT
  have hp:=seqS_ple hf l (f y t).2
  have e:=h y (by simp) t (by simpa using c) (hp.trans hT)
  rw[seqS,seqS,e,if_neg c,if_neg c]
  exact seqS_room hf l _ (fun z hz=>h z (by simp[hz])) h0 hT
theorem standP_room{T:WS} (h0:0≤rm'.d) (hn:(T.n:Int)≤rm'.n) (hb:(T.b:Int)≤rm'.b) (hD:∀i∈T.l,((slsh i.p+1:Nat):Int)≤rm.d→((slsh i.p+1:Nat):Int)≤rm'.d) :
  ∀(n:Nat) (x:Std) (t:WS),Pth x→(x.dep=0∨x.dir=false∨∃i∈t.l,i.p=x.p)→(standP s rm n x t).1=0→PLe (standP s rm n x t).2 T→standP s rm' n x t=standP s rm n x t
 | 0,x,t,_,_,h,_=>by rw[standP] at h;cases h
 | n+1,x,t,hx,hi,h,hT=>by
  have hv:(visit s rm x t).1=0:=by
   by_cases c:(visit s rm x t).1=0
   ·exact c
   ·rw[standP,if_pos c] at h
    exact absurd h c
  rw[standP,if_neg (fun k=>k hv)] at h hT
  have hp:=seqS_ple (fun y u=>(push_ple y u).trans (standP_ple (s:=s) (rm:=rm) n y (push y u))) (visit s rm x t).2.1 (visit s rm x t).2.2
  have hpT:=hp.trans hT
  have ob:=visit_room hv
  obtain⟨c1,hfile,hk,hroom⟩:=ob
  have hdep:¬rm'.d<x.dep:=by
   by_cases hz:x.dep=0
   ·rw[hz];show ¬rm'.d<((0:Nat):Int);omega
   have hit:∃i∈T.l,i.p=x.p:=by
    rcases hi with hi | hi | ⟨i,hi,e⟩
    ·exact absurd hi hz
    ·have ob:=hfile hi
     obtain⟨_,i,h1,h2⟩:=ob
     exact⟨i,hpT.l i h1,h2⟩
    ·exact⟨i,hpT.l i ((visit_ple x t).l i hi),e⟩
   obtain⟨i,h1,h2⟩:=hit
   have h3:=hD i h1
   rw[h2,(hx.s hz).2] at h3
   have:=h3 (by omega)
   omega
  have e:=hroom hdep (by have:=hpT.n;omega) (by have:=hpT.b;omega)
  rw[standP,standP,e,if_neg (fun k=>k hv),if_neg (fun k=>k hv)]
  refine seqS_room (fun y u=>(push_ple y u).trans (standP_ple n y (push y u))) _ _ (fun y hy u h1 h2=>?_) h hT
  have hy2:Pth y∧y.dep=x.dep+1:=by
   rcases hk with hk | hk
   ·rw[hk] at hy;cases hy
   ·rw[hk] at hy;exact kids_pth hx y hy
  refine standP_room h0 hn hb hD n y (push y u) hy2.1 ?_ h1 h2
  by_cases hyd:y.dir=true
  ·exact .inr (.inr (push_item hyd (by omega) u))
  ·exact .inr (.inl (by simpa using hyd))
theorem visit_items{x:Std}{t:WS}{K:Nat} (hx:x.p.length≤K) (h:∀i∈t.l,i.p.length≤K):∀i∈(visit s rm x t).2.2.l,i.p.length≤K:=by
 unfold visit
 split
 ·exact h
 ·split
  ·exact h
  ·split
   ·exact h
   ·split
    ·split
     ·exact h
     ·exact h
    ·split
     ·exact h
     ·intro i hi
      rcases mem_append.1 hi with hi | hi
      ·exact h i hi
      ·rw[mem_singleton.1 hi];exact hx
theorem visit_kids2{x:Std}{t:WS}:(visit s rm x t).2.1=[]∨(visit s rm x t).2.1=kids x (s.get x.d).1:=by
 unfold visit
 split
 ·exact .inl rfl
 ·split
  ·exact .inl rfl
  ·split
   ·exact .inl rfl
   ·split
    ·split
     ·exact .inl rfl
     ·exact .inr rfl
    ·split <;> exact .inl rfl
theorem push_items{x:Std}{t:WS}{K:Nat} (hx:x.p.length≤K) (h:∀i∈t.l,i.p.length≤K):∀i∈(push x t).l,i.p.length≤K:=by
 unfold push
 split
 ·intro i hi
  rcases mem_append.1 hi with hi | hi
  ·exact h i hi
  ·rw[mem_singleton.1 hi];exact hx
 ·exact h
theorem seqS_items{f:Std→WS→Int×WS}{K:Nat}:∀(l:List Std) (t:WS),(∀y∈l,∀u:WS,(∀i∈u.l,i.p.length≤K)→∀i∈(f y u).2.l,i.p.length≤K)→(∀i∈t.l,i.p.length≤K)→∀i∈(seqS f l t).2.l,i.p.length≤K
 | [],t,_,h=>h
 | y::l,t,hf,h=>by
  rw[seqS]
  split
  ·exact hf y (by simp) t h
  ·exact seqS_items l _ (fun z hz=>hf z (by simp[hz])) (hf y (by simp) t h)
theorem standP_items:∀(n:Nat) (x:Std) (t:WS),Pth x→n+x.dep=34→(∀i∈t.l,i.p.length≤2210)→∀i∈(standP s rm n x t).2.l,i.p.length≤2210
 | 0,x,t,_,_,h=>h
 | n+1,x,t,hx,hn,h=>by
  have hl:=hx.l
  have h1:=visit_items (s:=s) (rm:=rm) (x:=x) (K:=2210) (by omega) h
  rw[standP]
  split
  ·exact h1
  ·refine seqS_items _ _ (fun y hy u hu=>?_) h1
   have hy2:Pth y∧y.dep=x.dep+1:=by
    rcases visit_kids2 (s:=s) (rm:=rm) (x:=x) (t:=t) with hk | hk
    ·rw[hk] at hy;cases hy
    ·rw[hk] at hy;exact kids_pth hx y hy
   have hyl:=hy2.1.l
   have hyd:=hy2.2
   exact standP_items n y (push y u) hy2.1 (by omega) (push_items (by omega) hu)
end
def deepL (l:List WI):Nat:=l.foldl (fun m i=>max m (slsh i.p+1)) 0
theorem deepL_snoc (l:List WI) (i:WI):deepL (l++[i])=max (deepL l) (slsh i.p+1):=by simp[deepL]
theorem foldl_max_le (l:List WI):∀a:Nat,a≤l.foldl (fun m i=>max m (slsh i.p+1)) a∧∀i∈l,slsh i.p+1≤l.foldl (fun m i=>max m (slsh i.p+1)) a:=by
 induction l with
 | nil=>exact fun a=>⟨Nat.le_refl _,fun i hi=>by cases hi⟩
 | cons x l ih=>
  intro a
  have ob:=ih (max a (slsh x.p+1))
  obtain⟨h1,h2⟩:=ob
  refine⟨Nat.le_trans (Nat.le_max_left _ _) h1,fun i hi=>?_⟩
  rcases mem_cons.1 hi with rfl | hi
  ·exact Nat.le_trans (Nat.le_max_right _ _) h1
  ·exact h2 i hi
theorem deepL_le{l:List WI}{i:WI} (h:i∈l):slsh i.p+1≤deepL l:=(foldl_max_le l 0).2 i h
theorem deepL_max{l:List WI}{K:Nat} (h:∀i∈l,i.p.length≤K):deepL l≤K+1:=by
 have:∀(l:List WI) (a:Nat),a≤K+1→(∀i∈l,i.p.length≤K)→l.foldl (fun m i=>max m (slsh i.p+1)) a≤K+1:=by
  intro l
  induction l with
  | nil=>exact fun a ha _=>ha
  | cons x l ih=>
   intro a ha hl
   have h1:slsh x.p≤x.p.length:=count_le_length
   have h2:=hl x (by simp)
   exact ih _ (Nat.max_le.2 ⟨ha,by omega⟩) fun i hi=>hl i (by simp[hi])
 exact this l 0 (Nat.zero_le _) h
def rmG:Rm:=rmOf 65536 32 67108864
theorem rmG_ok:rmG.Ok:=⟨by decide,by decide,by decide⟩
theorem minZ_le{a b x:Int} (h1:x≤a) (h2:x≤b):x≤minZ a b:=by unfold minZ;split <;> omega
theorem rmOf_n (a b c:Int):(rmOf a b c).n=minZ a 65536:=rfl
theorem rmOf_d (a b c:Int):(rmOf a b c).d=minZ b 32:=rfl
theorem rmOf_b (a b c:Int):(rmOf a b c).b=minZ c 67108864:=rfl
theorem bounds_room{s:AS}{d:List UInt8} (h:(runs s rmG [rootS d] ws0).1=0):runs s (rmOf (runs s rmG [rootS d] ws0).2.n (deepL (runs s rmG [rootS d] ws0).2.l) (runs s rmG [rootS d] ws0).2.b) [rootS d] ws0=runs s rmG [rootS d] ws0:=by
 rw[runs_root,runs_root] at *
 have hg:=standP_good (s:=s) rmG_ok 34 (x:=rootS d) (t:=ws0) (ws0_good.mono (by omega)) h
 have ob:∃r,standP s rmG 34 (rootS d) ws0=r:=⟨_,rfl⟩
 obtain⟨r,hr⟩:=ob
 rw[hr] at hg h⊢
 have hn:=hg.n
 have hb:=hg.b
 have h1:=standP_room (s:=s) (rm:=rmG) (rm':=rmOf r.2.n (deepL r.2.l) r.2.b) (T:=r.2) (by rw[rmOf_d];exact minZ_le (by omega) (by omega)) (by rw[rmOf_n];exact minZ_le (by omega) (by omega)) (by rw[rmOf_b];exact minZ_le (by omega) (by omega))
  (fun i hi h32=>by
   have h2:=deepL_le hi
   have h3:((slsh i.p+1:Nat):Int)≤32:=h32
   rw[rmOf_d]
   exact minZ_le (by omega) (by omega)) 34 (rootS d) ws0 ⟨fun _=>rfl,fun k=>absurd rfl k,Nat.zero_le _⟩ (.inl rfl) (by rw[hr];exact h) (by rw[hr];exact PLe.refl _)
 rw[h1,hr]
theorem bounds_len{s:AS}{d:List UInt8}:∀i∈(runs s rmG [rootS d] ws0).2.l,i.p.length≤2210:=by
 rw[runs_root]
 exact standP_items 34 (rootS d) ws0 ⟨fun _=>rfl,fun k=>absurd rfl k,Nat.zero_le _⟩ rfl (fun i hi=>by cases hi)
end Go.Gx
namespace Go.Gx
open Go.Proofs List
attribute [local irreducible] shaL cutD frontL
theorem run_max{P:Program}{f:Slots}{w:World}{d:Option Tmp}{ty:TypeId}{pos:String}{af:Array Edge}{x y:Operand}{ats:Array TypeId}{k:IntKind}{a b:Int} (hx:ev f x=.int k a) (hy:ev f y=.int k b) :
  (execOp (ev f) ⟨d,.call { callee:=.builtin .max,args:=#[x,y],argTypes:=ats },ty,pos,af,none⟩).run P w=.ok (.value (.int k (if b > a then b else a))) w:=by
 simp[execOp,resolve,invoke,builtin,hx,hy,Builtin.max_,Builtin.max2]
section
variable{P:Program}{f:Slots}{w:World}{d:Option Tmp}{ty:TypeId}{pos:String}{af:Array Edge}{x y:Operand}{ats:Array TypeId}{k:IntKind}{a b c:Int}
theorem run_maxE (hx:ev f x=.int k a) (hy:ev f y=.int k b) (h:c=max a b):(execOp (ev f) ⟨d,.call { callee:=.builtin .max,args:=#[x,y],argTypes:=ats },ty,pos,af,none⟩).run P w=.ok (.value (.int k c)) w:=by
 rw[run_max hx hy,h]
 congr 3
 split <;> omega
theorem run_maxN{a b:Nat} (hx:ev f x=.int k a) (hy:ev f y=.int k b):(execOp (ev f) ⟨d,.call { callee:=.builtin .max,args:=#[x,y],argTypes:=ats },ty,pos,af,none⟩).run P w=.ok (.value (.int k ((max a b:Nat):Int))) w:=run_maxE hx hy (by omega)
end
theorem bld_room0 (w:World):(Instr.build 30 #[]).run Tryz.prog w=.ok (.agg #[.int .i64 0,.int .i64 0,.int .i64 0]) w:=by kernel_rfl
theorem great_spec (w0:World):CP 28 #[] w0 (Ret0 (.agg #[.int .i64 65536,.int .i64 32,.int .i64 67108864]) w0):=by
 have hs:Step [] [] w0 w0:=Step.refl w0
 refine calls (n:=2) Tryz.func28 rfl rfl rfl ?_
 refine sr<|WL.alloc ty30 rfl hs (fun b0 w hs=>?_)
 refine wZ<|sr<|wV (run_build rfl (bld_room _ _ _ _))<|WL.storeAll ty30 rfl rfl ((by rfl)) ((Cells1.of_all rfl)) hs (by rfl) (fun w hs=>?_)
 refine wZ<|CW.ret ?_
 refine fin_cell1 rfl rfl (run_loadVarN ty30 (by rfl) hs.a0) ?_
 exact⟨rfl,hs.clear⟩
def bndV (r:Int×WS):Value:=if r.1=0 then .tuple #[.agg #[.int .i64 (r.2.n:Nat),.int .i64 (deepL r.2.l:Nat),.int .i64 (r.2.b:Nat)],.bool true] else .tuple #[.agg #[.int .i64 0,.int .i64 0,.int .i64 0],.bool false]
section
variable{bw bp br N:Nat}{s:AS}{D R:List (Nat×Obj)}{d:List UInt8}{vR:Value}{w0:World}
set_option maxHeartbeats 8000000 in
theorem bounds_spec (hwc:At w0 bw 0 (w8C bp br vR)) (hR:RRep br s D R) (ok:s.Ok) (hfew:s.Few N) (hN:N<1000000000000) (hd:d.length=32) (hw:Lives (R++D) w0) :
  CP 40 #[.pointer (some ⟨bw,0,none⟩),.agg (u8s d).toArray] w0 (Ret0 (bndV (runs s rmG [rootS d] ws0)) w0):=by
 have hG:=standP_good (s:=s) rmG_ok 34 (x:=rootS d) (t:=ws0) (ws0_good.mono (by omega))
 have hpl:=bounds_len (s:=s) (d:=d)
 rw[←runs_root] at hG
 have hdl:(u8s d).length=32:=by rw[u8s,length_map,hd]
 have hs:Step [] [] w0 w0:=Step.refl w0
 refine calls (n:=71) Tryz.func40 rfl rfl rfl ?_
 refine sr<|WL.box (cs:=u8s d) rfl rfl rfl hs (fun b3 w hs=>?_)
 refine WL.alloc ty30 rfl hs (fun b4 w hs=>?_)
 refine wA<|wZ<|sr<|wm<|wn rfl<|wF 1 u42 rfl ty40 rfl<|wl ty40 rfl ((hwc.step hs.clear (by simp)).cell (j:=1) rfl)<|wE rfl (run_call en94 rfl rfl) (rtwin_abs hR ok (hw.after hs.clear)) ?_
 rintro e w ⟨bt,R1,D1,rfl,hT,hq⟩
 refine⟨_,rfl,?_⟩
 replace hs:=Step.call0 hs hq
 refine wE rfl (run_call en28 rfl rfl) (great_spec _) ?_
 rintro e w ⟨rfl,hq⟩
 refine⟨_,rfl,?_⟩
 replace hs:=hs.callE hq
 refine wE rfl (run_call en93 rfl rfl) (begin_spec _) ?_
 rintro e w ⟨bk,rfl,hq⟩
 refine⟨_,rfl,?_⟩
 replace hs:=Step.call0 hs hq
 refine wA<|wZ ?_
 have hW0:DWk bk bt rmG ws0 D1 [(bk,blk 180 (wkC bt rmG ws0 (.slice none 0 0) (.slice none 0 0)))]:=⟨_,[],_,[],[],rfl,OwnSl.nil _ _,OwnSl.nil _ _,rfl,fun u hu=>by cases hu⟩
 replace hs:Step [] ([(bk,blk 180 (wkC bt rmG ws0 (.slice none 0 0) (.slice none 0 0)))]++((R1++D1)++[(b4,blk 30 [.int .i64 0,.int .i64 0,.int .i64 0]),(b3,blk 44 (u8s d))])) w0 w:=hs
 replace hs:Step [] ([(b4,blk 30 [.int .i64 0,.int .i64 0,.int .i64 0]),(b3,blk 44 (u8s d))]++([(bk,blk 180 (wkC bt rmG ws0 (.slice none 0 0) (.slice none 0 0)))]++(R1++D1))) w0 w:=hs.perm (by classical exact perm_iff_count.2 fun x=>by simp only[count_append,count_cons,count_nil];omega)
 have hdir:=fun{w1:World} h=>wdir_spec (x:=rootS d) (t:=ws0) (w0:=w1) ok rmG_ok hfew hN 34 rfl rfl hd (by simp[rootS]) (ws0_good.mono (by omega)) hW0 hT h
 rw[←runs_root] at hdir
 have ob:∃r,runs s rmG [rootS d] ws0=r:=⟨_,rfl⟩
 obtain⟨r,hr⟩:=ob
 rw[hr] at hdir hG hpl⊢
 have hst:(bndV r)=bndV r:=rfl
 by_cases he:r.1≠0
 ·have hv:bndV r=.tuple #[.agg #[.int .i64 0,.int .i64 0,.int .i64 0],.bool false]:=if_neg he
  rw[hv]
  refine cq<|sr<|wm<|wV (run_loadN ty44 rfl hdl hs.a1)<|wE rfl (run_call en95 rfl rfl) (hdir (Lives.mk hs.tail.tail)) ?_
  rintro e w ⟨W1,R2,D2,rfl,hW1,hR1,hq⟩
  refine⟨_,rfl,?_⟩
  replace hs:=Step.wput (A:=[_,_]) (W:=[_]) hs hq
  refine wV (run_bT (run_neq rfl rfl) (by exact he))<|wZ<|CW.cond rfl (fun h=>?_) (fun h=>?_)
  ·refine sr<|wV (run_build rfl (bld_room0 _))<|WL.storeAll ty30 rfl rfl ((by rfl)) ((Cells1.of_all rfl)) hs (by rfl) (fun w hs=>?_)
   refine wA<|wZ<|CW.ret ?_
   refine fin_cellTmp rfl rfl (run_loadVarN ty30 (by rfl) hs.a0) ?_
   exact⟨rfl,hs.clear⟩
  ·cases h
 have he0:r.1=0:=by simpa using he
 have hG:=hG he0
 have hgn:=hG.n
 have hgb:=hG.b
 have hgl:=hG.l
 refine cq<|sr<|wm<|wV (run_loadN ty44 rfl hdl hs.a1)<|wE rfl (run_call en95 rfl rfl) (hdir (Lives.mk hs.tail.tail)) ?_
 rintro e w ⟨W1,R2,D2,rfl,hW1,hR1,hq⟩
 refine⟨_,rfl,?_⟩
 replace hs:=Step.wput (A:=[_,_]) (W:=[_]) hs hq
 refine wV (run_bF (run_neq rfl rfl) (by exact he))<|wZ<|CW.cond rfl (fun h=>?_) (fun h=>?_)
 ·cases h
 have hv:bndV r=.tuple #[.agg #[.int .i64 (r.2.n:Nat),.int .i64 (deepL r.2.l:Nat),.int .i64 (r.2.b:Nat)],.bool true]:=if_pos he0
 rw[hv]
 obtain⟨vL,LL,vM,LM,T,rfl,hvL,hvM,hT,hTD⟩:=hW1
 have ob:∃l,r.2.l=l:=⟨_,rfl⟩
 obtain⟨l,hl⟩:=ob
 rw[hl] at hvL hT hpl hgl⊢
 have hTl:T.length=l.length:=by rw[←hT,length_map]
 have ob:=hvL.form
 obtain⟨la,lc,rfl⟩:=ob
 have ob:∃Y,(b3,blk 44 (u8s d))::(((bk,blk 180 (wkC bt rmG r.2 (.slice la l.length lc) vM))::(LL++LM))++(R2++(D2++D1)))=Y:=⟨_,rfl⟩
 obtain⟨Y,hY⟩:=ob
 have hbk:(bk,blk 180 (wkC bt rmG r.2 (.slice la l.length lc) vM))∈Y:=by rw[←hY];simp
 have hLL:∀p∈LL,p∈Y:=fun p hp=>by rw[←hY];simp[hp]
 replace hs:Step [] ((b4,blk 30 [.int .i64 0,.int .i64 0,.int .i64 0])::Y) w0 w:=by rw[←hY];exact hs
 have hcell:∀{w:World},Step [] ((b4,blk 30 [.int .i64 0,.int .i64 0,.int .i64 0])::Y) w0 w→w.cell? ⟨bk,6,none⟩=some (.slice la l.length lc):=fun h=>(At.of_blk (h.has _ (mem_cons_of_mem _ hbk))).cell (j:=6) rfl
 refine ck<|sr<|wA<|wZ<|cq<|sr<|wA<|wZ<|cB<|CW.loop (fun z f w'=>∃(k:Nat),k≤l.length∧z=l.length - k∧Step [] ((b4,blk 30 [.int .i64 0,.int .i64 0,.int .i64 0])::Y) w0 w'∧Holds f [(4,.pointer (some ⟨b4,0,none⟩)),(6,.pointer (some ⟨bk,0,none⟩)),(7,.int .i64 (deepL (l.take k):Nat)),(8,.int .i64 (k:Nat))]) (m:=l.length) ?_ ?_
 ·exact⟨0,Nat.zero_le _,rfl,hs,rfl,rfl,rfl,rfl,trivial⟩
 clear hs
 rintro z f w ⟨k,hk,rfl,hs,hf⟩
 have ob:=hf.chain
 obtain⟨g,rfl⟩:=ob
 by_cases hlt:k<l.length
 ·have ob:∃u,T[k]?=some u:=⟨_,getElem?_eq_getElem (by omega)⟩
  obtain⟨u,hu⟩:=ob
  have hlk:l[k]?=some u.1:=by rw[←hT,getElem?_map,hu];rfl
  have hdeep:deepL (l.take (k+1))=max (deepL (l.take k)) (slsh u.1.p+1):=by rw[take_add_one,hlk];exact deepL_snoc _ _
  have hul:=hpl u.1 (mem_of_getElem? hlk)
  have ob:=hvL.some1 (by omega)
  obtain⟨bl,cl,more,h1,h2,h3⟩:=ob
  have hcell2:∀{w:World},Step [] ((b4,blk 30 [.int .i64 0,.int .i64 0,.int .i64 0])::Y) w0 w→w.cell? ⟨bk,6,none⟩=some (.slice (some ⟨bl,0,none⟩) l.length cl):=fun h=>by rw[←h1];exact hcell h
  have hrow:∀{w:World},Step [] ((b4,blk 30 [.int .i64 0,.int .i64 0,.int .i64 0])::Y) w0 w→At w bl (0+k*3) (wiC u):=fun h=>rowsW_at (At.of_blk (h.has (bl,blk 155 (rowsW T++more)) (mem_cons_of_mem _ (hLL _ (by rw[h2];exact mem_singleton.2 rfl))))).left hu
  have ob:∃p,u.1.p=p:=⟨_,rfl⟩
  obtain⟨p,hp⟩:=ob
  have hstr:∀{w:World},Step [] ((b4,blk 30 [.int .i64 0,.int .i64 0,.int .i64 0])::Y) w0 w→w.cell? ⟨bl,0+k*3+0,none⟩=some (str p):=fun h=>by rw[←hp];exact(hrow h).cell (j:=0) rfl
  rw[hp] at hdeep hul
  refine cq<|sr<|wm<|wm<|wn rfl<|wF 6 u180 rfl ty65 rfl<|wl ty65 rfl (hcell hs)<|wV (run_lenSl u65 rfl)<|wV (run_bT (run_lss rfl rfl) (by omega))<|wZ<|CW.cond rfl (fun h=>?_) (fun h=>?_)
  ·refine ck<|cq<|cB<|sr<|wA<|wZ<|cq<|sr<|wA<|wZ<|cB<|CW.loop (fun z f w'=>∃(j:Nat),j≤p.length∧z=p.length - j∧Step [] ((b4,blk 30 [.int .i64 0,.int .i64 0,.int .i64 0])::Y) w0 w'∧Holds f [(4,.pointer (some ⟨b4,0,none⟩)),(6,.pointer (some ⟨bk,0,none⟩)),(7,.int .i64 (deepL (l.take k):Nat)),(8,.int .i64 (k:Nat)),(9,.int .i64 (slsh (p.take j)+1:Nat)),(10,.int .i64 (j:Nat))]) (m:=p.length) ?_ ?_
   ·exact⟨0,Nat.zero_le _,rfl,hs,rfl,rfl,rfl,rfl,rfl,rfl,trivial⟩
   clear hs
   rintro z f w ⟨j,hj,rfl,hs,hf⟩
   have ob:=hf.chain
   obtain⟨g,rfl⟩:=ob
   have hsl:slsh (p.take j)≤(p.take j).length:=count_le_length
   rw[length_take] at hsl
   by_cases hlt2:j<p.length
   ·have ob:∃c,p[j]?=some c:=⟨_,getElem?_eq_getElem hlt2⟩
    obtain⟨c,hc⟩:=ob
    have htk:p.take (j+1)=p.take j++[c]:=by rw[take_add_one,hc];rfl
    by_cases hc47:c=47
    ·have hn:slsh (p.take (j+1))=slsh (p.take j)+1:=by rw[htk,slsh,count_append,hc47];rfl
     refine cq<|sr<|wm<|wm<|wn rfl<|wF 6 u180 rfl ty65 rfl<|wl ty65 rfl (hcell2 hs)<|wm<|wV (run_ixSlN u65 ty155 rfl rfl (by omega))<|wF 0 u155 rfl ty9 rfl<|wl ty9 rfl (hstr hs)<|wV (run_lenStr u9 rfl)<|wV (run_bT (run_lss rfl rfl) (by omega))<|wZ ?_
     refine CW.cond rfl (fun h=>?_) (fun h=>?_)
     ·refine ck<|cq<|cB<|sr<|wm<|wn rfl<|wF 6 u180 rfl ty65 rfl<|wl ty65 rfl (hcell2 hs)<|wm<|wV (run_ixSlN u65 ty155 rfl rfl (by omega))<|wF 0 u155 rfl ty9 rfl<|wl ty9 rfl (hstr hs)<|wm<|wV (run_strIdx u9 rfl rfl (hc))<|wV (run_bT (run_eql rfl rfl) (by rw[hc47];rfl))<|wZ ?_
      refine CW.cond rfl (fun h=>?_) (fun h=>?_)
      ·skip
       refine cr<|wm<|wV (run_add (c:=((slsh (p.take (j+1))+1:Nat):Int)) rfl rfl (by omega) (by omega))<|wA<|wZ<|cr<|wm<|wV (run_add (c:=((j+1:Nat):Int)) rfl rfl (by omega) (by omega))<|wA<|wZ<|(show _∧_ from⟨rfl,_,?_,j+1,hlt2,rfl,hs,rfl,rfl,rfl,rfl,rfl,rfl,trivial⟩)
       omega
      ·cases h
     ·cases h
    ·have hn:slsh (p.take (j+1))=slsh (p.take j):=by rw[htk,slsh,count_append,count_cons,count_nil,if_neg (by simpa using hc47)];rfl
     refine cq<|sr<|wm<|wm<|wn rfl<|wF 6 u180 rfl ty65 rfl<|wl ty65 rfl (hcell2 hs)<|wm<|wV (run_ixSlN u65 ty155 rfl rfl (by omega))<|wF 0 u155 rfl ty9 rfl<|wl ty9 rfl (hstr hs)<|wV (run_lenStr u9 rfl)<|wV (run_bT (run_lss rfl rfl) (by omega))<|wZ ?_
     refine CW.cond rfl (fun h=>?_) (fun h=>?_)
     ·refine ck<|cq<|cB<|sr<|wm<|wn rfl<|wF 6 u180 rfl ty65 rfl<|wl ty65 rfl (hcell2 hs)<|wm<|wV (run_ixSlN u65 ty155 rfl rfl (by omega))<|wF 0 u155 rfl ty9 rfl<|wl ty9 rfl (hstr hs)<|wm<|wV (run_strIdx u9 rfl rfl (hc))<|wV (run_bF (run_eql rfl rfl) (by exact fun h=>hc47 (UInt8.toNat_inj.1 (Int.ofNat.inj h))))<|wZ ?_
      refine CW.cond rfl (fun h=>?_) (fun h=>?_)
      ·cases h
      refine ck<|cr<|wm<|wV (run_add (c:=((j+1:Nat):Int)) rfl rfl (by omega) (by omega))<|wA<|wZ<|(show _∧_ from⟨rfl,_,?_,j+1,hlt2,rfl,hs,rfl,rfl,rfl,rfl,congrArg (fun n:Nat=>Value.int .i64 (n+1:Nat)) hn.symm,rfl,trivial⟩)
      omega
     ·cases h
   ·obtain rfl:j=p.length:=by omega
    rw[take_length] at hsl
    refine cq<|sr<|wm<|wm<|wn rfl<|wF 6 u180 rfl ty65 rfl<|wl ty65 rfl (hcell2 hs)<|wm<|wV (run_ixSlN u65 ty155 rfl rfl (by omega))<|wF 0 u155 rfl ty9 rfl<|wl ty9 rfl (hstr hs)<|wV (run_lenStr u9 rfl)<|wV (run_bF (run_lss rfl rfl) (by omega))<|wZ ?_
    refine CW.cond rfl (fun h=>?_) (fun h=>?_)
    ·cases h
    rw[take_length]
    refine CW.exit<|cr<|wm<|wm<|wV (run_maxN rfl rfl)<|wA<|wZ<|cr<|wm<|wV (run_add (c:=((k+1:Nat):Int)) rfl rfl (by omega) (by omega))<|wA<|wZ<|(show _∧_ from⟨rfl,_,?_,k+1,hlt,rfl,hs,rfl,rfl,congrArg (fun n:Nat=>Value.int .i64 n) hdeep.symm,rfl,trivial⟩)
    omega
  ·cases h
 ·obtain rfl:k=l.length:=by omega
  rw[take_length]
  refine cq<|sr<|wm<|wm<|wn rfl<|wF 6 u180 rfl ty65 rfl<|wl ty65 rfl (hcell hs)<|wV (run_lenSl u65 rfl)<|wV (run_bF (run_lss rfl rfl) (by omega))<|wZ<|CW.cond rfl (fun h=>?_) (fun h=>?_)
  ·cases h
  refine CW.exit<|cq<|CW.any (A:=fun w=>w.heap[bk]?=some (blk 180 (wkC bt rmG r.2 (.slice la l.length lc) vM))) (C:=fun w=>w.heap[bk]?=some (blk 180 (wkC bt rmG r.2 (.slice la l.length lc) vM))) 1000000 12 mixedP rfl ?_
  replace hs:=hs.drew
  refine aM 0 rfl<|aV 1 rfl (fun w hs=>run_nilCheck rfl)<|aV 2 rfl (fun w hs=>run_field (o':=4) u180 rfl ty3 rfl rfl rfl)<|aV 3 rfl (fun w hs=>run_load1 ty3 rfl ((At.of_blk hs).cell (j:=4) rfl))<|aM 4 rfl<|aM 5 rfl<|aV 6 rfl (fun w hs=>run_nilCheck rfl)<|aV 7 rfl (fun w hs=>run_field (o':=5) u180 rfl ty3 rfl rfl rfl)<|aV 8 rfl (fun w hs=>run_load1 ty3 rfl ((At.of_blk hs).cell (j:=5) rfl))<|aV 9 rfl (fun w hs=>run_build rfl (bld_room _ _ _ _))<|AL.one 10 (by kernel_rfl) rfl (hs.has (bk,blk 180 (wkC bt rmG r.2 (.slice la l.length lc) vM)) (mem_cons_of_mem _ hbk)) (hs.has (bk,blk 180 (wkC bt rmG r.2 (.slice la l.length lc) vM)) (mem_cons_of_mem _ hbk)) ?_
  refine WL.storeAll ty30 rfl rfl ((by rfl)) ((Cells1.of_all rfl)) hs (by rfl) (fun w hs=>?_)
  refine wZ<|⟨rfl,?_⟩
  refine aV 11 rfl (fun w hs=>run_assign)<|AL.end (by kernel_rfl) (hs.has (bk,blk 180 (wkC bt rmG r.2 (.slice la l.length lc) vM)) (mem_cons_of_mem _ hbk)) (hs.has (bk,blk 180 (wkC bt rmG r.2 (.slice la l.length lc) vM)) (mem_cons_of_mem _ hbk)) ?_
  refine CW.ret ?_
  refine fin_cellTmp rfl rfl (run_loadVarN ty30 (by rfl) hs.a0) ?_
  exact⟨rfl,hs.clear⟩
end
end Go.Gx
namespace Go.Gx
open Go.Proofs Go.RowKit List
attribute [local irreducible] shaL cutD frontL
theorem filled4 (z1 z2 z3 a1 a2 a3 b1 b2 b3 c1 c2 c3 d1 d2 d3:Value):Filled 3 4 [z1,z2,z3] [(0,.agg #[a1,a2,a3]),(1,.agg #[b1,b2,b3]),(2,.agg #[c1,c2,c3]),(3,.agg #[d1,d2,d3])] [a1,a2,a3,b1,b2,b3,c1,c2,c3,d1,d2,d3]:=by
 simp[Filled,Instr.fill,Value.cells,List.replicate]
theorem packR_gotN{s:AS}{g:Nat}{r:Int×WS}{of:List (List UInt8)}:packR (s.gotN g) r of=packR s r of:=rfl
theorem partsM_gotN{s:AS}{g:Nat}{m:List (List UInt8×Bool)}:partsM (s.gotN g) m=partsM s m:=rfl
def rN (n:Int) (i:Nat):Int:=if i=1 then n - 1 else n
def rD (n:Int) (i:Nat):Int:=if i=2 then n - 1 else n
def rB (n:Int) (i:Nat):Int:=if i=3 then n - 1 else n
theorem rooms_at{w:World}{b:Nat}{n d e:Int} (h:At w b 0 [.int .i64 n,.int .i64 d,.int .i64 e,.int .i64 (n - 1),.int .i64 d,.int .i64 e,.int .i64 n,.int .i64 (d - 1),.int .i64 e,.int .i64 n,.int .i64 d,.int .i64 (e - 1)]):∀{i:Nat},i<4→At w b (0+i*3) [.int .i64 (rN n i),.int .i64 (rD d i),.int .i64 (rB e i)]
 | 0,_=>(h.drop 0).take 3
 | 1,_=>(h.drop 3).take 3
 | 2,_=>(h.drop 6).take 3
 | 3,_=>(h.drop 9).take 3
 | _+4,h=>absurd h (by omega)
section
variable{α:Type}{a b c e f g:α}{A B C D:List α}
theorem perm_b1:((e::(A++(B++(C++D))))++[a]).Perm (e::a::(A++(B++(C++D)))):=by
 classical exact perm_iff_count.2 fun x=>by simp only[count_append,count_cons,count_nil];omega
theorem perm_b2:(f::g::c::e::a::(A++(B++(C++D)))).Perm ((f::c::e::([g,a]++A))++(B++(C++D))):=by
 classical exact perm_iff_count.2 fun x=>by simp only[count_append,count_cons,count_nil];omega
end
section
variable{wd z:Int}{x:Stup}
set_option maxHeartbeats 16000000 in
theorem flowBounds_spec (w0:World) (hx:x.Ok w0) (hz : -9223372036854775808≤z∧z≤9223372036854775807) :
  CP 10 #[.int .i64 wd,.agg x.cells.toArray,.int .i64 z] w0 (Ret0 (.bool true) w0):=by
 have hs:Step [] [] w0 w0:=Step.refl w0
 have hcl:x.cells.length=6:=rfl
 by_cases hbad:(wd<1∨32<wd)∨¬(0≤x.cap∧x.cap≤67108864)
 ·refine calls (n:=173) Tryz.func10 rfl rfl rfl ?_
  refine sr<|WL.box (cs:=x.cells) rfl rfl rfl hs (fun b4 w hs=>?_)
  refine wA<|wZ<|cq<|sr<|wE rfl (run_call en15 rfl rfl) (known8_spec _) ?_
  rintro e w ⟨rfl,hq⟩
  refine⟨_,rfl,?_⟩
  replace hs:=hs.callE hq
  refine wV (run_not rfl)<|wZ<|CW.cond rfl (fun h=>?_) (fun h=>?_)
  ·cases h
  refine ck<|sr<|wm<|wV (run_loadN ty28 rfl hcl hs.a0)<|wE rfl (run_call en16 rfl rfl) (made8_bad hbad rfl _) ?_
  rintro e w ⟨rfl,hq⟩
  refine⟨_,rfl,?_⟩
  replace hs:=hs.callE hq
  refine wm<|wx rfl rfl<|wx rfl rfl<|wA<|wA<|wZ<|cq<|sr<|wm<|wV (run_not rfl)<|wm<|wy<|wm ?_
  refine wy<|wV (run_nilNil u32 rfl rfl)<|wV (run_pickF rfl)<|wZ<|CW.cond rfl (fun h=>?_) (fun h=>?_)
  ·refine sr<|wm<|wA<|wZ<|CW.ret ?_
   refine fin_ret1 rfl ?_
   exact⟨rfl,hs.clear⟩
  ·cases h
 have ob:∃k:Nat,wd=k:=⟨wd.toNat,by omega⟩
 obtain⟨k,rfl⟩:=ob
 have ob:∃c:Nat,x.cap=c:=⟨x.cap.toNat,by omega⟩
 obtain⟨c,hc⟩:=ob
 refine calls (n:=173) Tryz.func10 rfl rfl rfl ?_
 refine sr<|WL.box (cs:=x.cells) rfl rfl rfl hs (fun b4 w hs=>?_)
 refine wA<|wZ<|cq<|sr<|wE rfl (run_call en15 rfl rfl) (known8_spec _) ?_
 rintro e w ⟨rfl,hq⟩
 refine⟨_,rfl,?_⟩
 replace hs:=hs.callE hq
 refine wV (run_not rfl)<|wZ<|CW.cond rfl (fun h=>?_) (fun h=>?_)
 ·cases h
 refine ck<|sr<|wm<|wV (run_loadN ty28 rfl hcl hs.a0)<|wE rfl (run_call en16 rfl rfl) (made8_spec (by omega) (by omega) (by omega) hc _ (hx.step0 hs.clear)) ?_
 rintro e w ⟨bw,bp,br,rfl,s,roots,vR,LR,L,R,D,hM,few,hsk,hrl⟩
 refine⟨_,rfl,?_⟩
 have hs2:=Step.call0 hs hM.hs
 replace hs:=Step.perm hs2 perm_b1
 refine wm<|wx rfl rfl<|wx rfl rfl<|wA<|wA<|wZ ?_
 have ok:=hM.ok
 refine cq<|sr<|wm<|wV (run_not rfl)<|wm<|wy<|wm<|wy<|wV (run_ptrNil u32 rfl rfl)<|wV (run_pickF rfl)<|wZ<|CW.cond rfl (fun h=>?_) (fun h=>?_)
 ·cases h
 have ob:∃d,rootF roots s.X z=d:=⟨_,rfl⟩
 obtain⟨d,hdE⟩:=ob
 have hd32:=rootF_len (z:=z) hM.r32 ok.len
 rw[hdE] at hd32
 have hdl:(u8s d).length=32:=by rw[u8s,length_map,hd32]
 have hroot:∀{w:World}{A:List (Nat×Obj)},Step [] ((bw,blk 42 (w8C bp br vR))::(b4,blk 28 x.cells)::(LR++(L++(R++D)))) w0 w→CP 18 #[.pointer (some ⟨bw,0,none⟩),.int .i64 z] w (Ret0 (.agg (u8s d).toArray) w):=fun {w A} h=>by
  have h2:=root8_spec (z:=z) (w:=w) (bw:=bw) (bp:=bp) (br:=br) (vR:=vR) (roots:=roots) (At.of_blk (h.has (bw,blk 42 (w8C bp br vR)) (by simp))) (Dgs.own hM.vr (fun p hp=>h.has p (by simp[hp])) hM.r32 (by omega)) hM.rr (fun p hp=>h.has p (by simp[hp])) ok (by omega) hz
  rw[hdE] at h2;exact h2
 refine ck<|sr<|wm<|wm<|wE rfl (run_call en18 rfl rfl) (hroot (A:=[]) hs) ?_
 rintro e w ⟨rfl,hq⟩
 refine⟨_,rfl,?_⟩
 replace hs:=hs.callE hq
 refine WL.alloc ty44 rfl hs (fun b9 w hs=>?_)
 refine WL.storeAll ty44 rfl rfl ((hdl)) ((Cells1.u8s _)) hs (by rfl) (fun w hs=>?_)
 refine wZ ?_
 replace hs:Step [] ((b9,blk 44 (u8s d))::(bw,blk 42 (w8C bp br vR))::(b4,blk 28 x.cells)::(LR++(L++(R++D)))) w0 w:=hs
 have hbn:=fun{w:World} h1 h2=>bounds_spec (w0:=w) (bw:=bw) (bp:=bp) (vR:=vR) h1 hM.rr ok few (by omega) hd32 h2
 have hbr:=bounds_room (s:=s) (d:=d)
 have hgd:=standP_good (s:=s) rmG_ok 34 (x:=rootS d) (t:=ws0) (ws0_good.mono (by omega))
 have hpl:=bounds_len (s:=s) (d:=d)
 rw[←runs_root] at hgd
 have ob:∃r,runs s rmG [rootS d] ws0=r:=⟨_,rfl⟩
 obtain⟨r,hr⟩:=ob
 rw[hr] at hbr hgd hpl
 simp only[hr] at hbn
 have hlv:∀{w:World}{B:List (Nat×Obj)},Step [] ((b9,blk 44 (u8s d))::(bw,blk 42 (w8C bp br vR))::(b4,blk 28 x.cells)::(LR++(L++(R++D)))) w0 w→Lives (R++D) w:=fun {w B} h=>Two.rlive (A:=_::_::_::LR) h
 by_cases he:r.1≠0
 ·have hv:bndV r=.tuple #[.agg #[.int .i64 0,.int .i64 0,.int .i64 0],.bool false]:=if_neg he
  rw[hv] at hbn
  refine sr<|wm<|wV (run_loadN ty44 rfl hdl hs.a0)<|wE rfl (run_call en40 rfl rfl) (hbn (At.of_blk (hs.has (bw,blk 42 (w8C bp br vR)) (by simp))) (hlv (B:=[]) hs)) ?_
  rintro e w ⟨rfl,hq⟩
  refine⟨_,rfl,?_⟩
  replace hs:=hs.callE hq
  refine wm<|wx rfl rfl<|wx rfl rfl<|WL.alloc ty30 rfl hs (fun b10 w hs=>?_)
  refine WL.storeAll ty30 rfl rfl ((by rfl)) ((Cells1.of_all rfl)) hs (by rfl) (fun w hs=>?_)
  refine wA<|wZ<|cq<|sr<|wm<|wV (run_not rfl)<|wZ<|CW.cond rfl (fun h=>?_) (fun h=>?_)
  ·refine sr<|wA<|wZ<|CW.ret ?_
   refine fin_ret1 rfl ?_
   exact⟨rfl,hs.clear⟩
  ·cases h
 have he0:r.1=0:=by simpa using he
 have hgd:=hgd he0
 have hgn:=hgd.n
 have hgb:=hgd.b
 have hgm:=deepL_max hpl
 have hbr:=hbr he0
 have ob:∃n0:Int,(r.2.n:Int)=n0:=⟨_,rfl⟩
 obtain⟨n0,hn0⟩:=ob
 have ob:∃d0:Int,(deepL r.2.l:Int)=d0:=⟨_,rfl⟩
 obtain⟨d0,hd0⟩:=ob
 have ob:∃e0:Int,(r.2.b:Int)=e0:=⟨_,rfl⟩
 obtain⟨e0,he00⟩:=ob
 have hv:bndV r=.tuple #[.agg #[.int .i64 n0,.int .i64 d0,.int .i64 e0],.bool true]:=by rw[bndV,if_pos he0,hn0,hd0,he00]
 rw[hv] at hbn
 rw[hn0,hd0,he00] at hbr
 refine sr<|wm<|wV (run_loadN ty44 rfl hdl hs.a0)<|wE rfl (run_call en40 rfl rfl) (hbn (At.of_blk (hs.has (bw,blk 42 (w8C bp br vR)) (by simp))) (hlv (B:=[]) hs)) ?_
 rintro e w ⟨rfl,hq⟩
 refine⟨_,rfl,?_⟩
 replace hs:=hs.callE hq
 refine wm<|wx rfl rfl<|wx rfl rfl<|WL.alloc ty30 rfl hs (fun b10 w hs=>?_)
 refine WL.storeAll ty30 rfl rfl ((by rfl)) ((Cells1.of_all rfl)) hs (by rfl) (fun w hs=>?_)
 refine wA<|wZ<|cq<|sr<|wm<|wV (run_not rfl)<|wZ<|CW.cond rfl (fun h=>?_) (fun h=>?_)
 ·cases h
 replace hs:=(show Step [] ((b10,blk 30 [.int .i64 n0,.int .i64 d0,.int .i64 e0])::(b9,blk 44 (u8s d))::(bw,blk 42 (w8C bp br vR))::(b4,blk 28 x.cells)::(LR++(L++(R++D)))) w0 w from hs)
 refine ck<|sr<|wV (run_loadN ty30 rfl rfl hs.a0)<|wV (run_loadN ty30 rfl rfl hs.a0)<|wV (run_loadN ty30 rfl rfl hs.a0)<|wV (run_loadN ty30 rfl rfl hs.a0)<|WL.buildSlice (cs:=[.int .i64 n0,.int .i64 d0,.int .i64 e0,.int .i64 n0,.int .i64 d0,.int .i64 e0,.int .i64 n0,.int .i64 d0,.int .i64 e0,.int .i64 n0,.int .i64 d0,.int .i64 e0]) Tryz.underlying92 ty30 rfl (by decide) rfl (filled4 _ _ _ _ _ _ _ _ _ _ _ _ _ _ _) rfl hs (fun b51 w hs=>?_)
 refine WL.val rfl (run_assign)<|WL.nil<|CW.seq<|CW.reg<|WL.val rfl (run_move)<|WL.val rfl (run_ixSlN (i:=1) Tryz.underlying92 ty30 rfl rfl (by omega))<|WL.val rfl (run_field (o':=0) Tryz.underlying30 rfl ty3 rfl rfl rfl)<|WL.val rfl (run_load1 ty3 rfl (hs.c0 (v:=.int .i64 n0) rfl))<|WL.val rfl (run_sub (c:=(n0 - 1)) rfl rfl (by omega) (by omega))<|WL.val rfl (run_ixSlN (i:=1) Tryz.underlying92 ty30 rfl rfl (by omega))<|WL.val rfl (run_field (o':=0) Tryz.underlying30 rfl ty3 rfl rfl rfl)<|ws1 ty3 rfl rfl (rfl) hs (fun w hs=>?_)
 refine WL.nil<|CW.seq<|CW.reg<|WL.val rfl (run_move)<|WL.val rfl (run_ixSlN (i:=2) Tryz.underlying92 ty30 rfl rfl (by omega))<|WL.val rfl (run_field (o':=1) Tryz.underlying30 rfl ty3 rfl rfl rfl)<|WL.val rfl (run_load1 ty3 rfl (hs.c0 (v:=.int .i64 d0) rfl))<|WL.val rfl (run_sub (c:=(d0 - 1)) rfl rfl (by omega) (by omega))<|WL.val rfl (run_ixSlN (i:=2) Tryz.underlying92 ty30 rfl rfl (by omega))<|WL.val rfl (run_field (o':=1) Tryz.underlying30 rfl ty3 rfl rfl rfl)<|ws1 ty3 rfl rfl (rfl) hs (fun w hs=>?_)
 refine WL.nil<|CW.seq<|CW.reg<|WL.val rfl (run_move)<|WL.val rfl (run_ixSlN (i:=3) Tryz.underlying92 ty30 rfl rfl (by omega))<|WL.val rfl (run_field (o':=2) Tryz.underlying30 rfl ty3 rfl rfl rfl)<|WL.val rfl (run_load1 ty3 rfl (hs.c0 (v:=.int .i64 e0) rfl))<|WL.val rfl (run_sub (c:=(e0 - 1)) rfl rfl (by omega) (by omega))<|WL.val rfl (run_ixSlN (i:=3) Tryz.underlying92 ty30 rfl rfl (by omega))<|WL.val rfl (run_field (o':=2) Tryz.underlying30 rfl ty3 rfl rfl rfl)<|ws1 ty3 rfl rfl (rfl) hs (fun w hs=>?_)
 refine wZ ?_
 have ob:∃BX,[(b10,blk 30 [.int .i64 n0,.int .i64 d0,.int .i64 e0]),(b4,blk 28 x.cells)]=BX:=⟨_,rfl⟩
 obtain⟨BX,hBX⟩:=ob
 replace hs:Step [] (((b51,blk 30 [.int .i64 n0,.int .i64 d0,.int .i64 e0,.int .i64 (n0 - 1),.int .i64 d0,.int .i64 e0,.int .i64 n0,.int .i64 (d0 - 1),.int .i64 e0,.int .i64 n0,.int .i64 d0,.int .i64 (e0 - 1)])::(b9,blk 44 (u8s d))::(bw,blk 42 (w8C bp br vR))::(BX++LR))++(L++(R++D))) w0 w:=by
  rw[←hBX]
  exact Step.perm (show Step [] ((b51,blk 30 [.int .i64 n0,.int .i64 d0,.int .i64 e0,.int .i64 (n0 - 1),.int .i64 d0,.int .i64 e0,.int .i64 n0,.int .i64 (d0 - 1),.int .i64 e0,.int .i64 n0,.int .i64 d0,.int .i64 (e0 - 1)])::(b10,blk 30 [.int .i64 n0,.int .i64 d0,.int .i64 e0])::(b9,blk 44 (u8s d))::(bw,blk 42 (w8C bp br vR))::(b4,blk 28 x.cells)::(LR++(L++(R++D)))) w0 w from hs) perm_b2
 have hrow:∀{w:World}{i:Nat},i<4→Step [] [(b51,blk 30 [.int .i64 n0,.int .i64 d0,.int .i64 e0,.int .i64 (n0 - 1),.int .i64 d0,.int .i64 e0,.int .i64 n0,.int .i64 (d0 - 1),.int .i64 e0,.int .i64 n0,.int .i64 d0,.int .i64 (e0 - 1)]),(b9,blk 44 (u8s d)),(bw,blk 42 (w8C bp br vR))] w0 w→At w b51 (0+i*3) [.int .i64 (rN n0 i),.int .i64 (rD d0 i),.int .i64 (rB e0 i)]:=fun h4 h=>rooms_at (At.of_blk (h.has (b51,blk 30 [.int .i64 n0,.int .i64 d0,.int .i64 e0,.int .i64 (n0 - 1),.int .i64 d0,.int .i64 e0,.int .i64 n0,.int .i64 (d0 - 1),.int .i64 e0,.int .i64 n0,.int .i64 d0,.int .i64 (e0 - 1)]) (by simp))) h4
 refine cq<|sr<|wA<|wZ<|cB<|CW.loop (fun z f w'=>∃(i G:Nat) (Lc Rc Dc:List (Nat×Obj)),i≤4∧z=4 - i∧G≤131074*i∧PRep bp (s.gotN G) (Dc++D) Lc∧RRep br (s.gotN G) (Dc++D) Rc∧Step [] (((b51,blk 30 [.int .i64 n0,.int .i64 d0,.int .i64 e0,.int .i64 (n0 - 1),.int .i64 d0,.int .i64 e0,.int .i64 n0,.int .i64 (d0 - 1),.int .i64 e0,.int .i64 n0,.int .i64 d0,.int .i64 (e0 - 1)])::(b9,blk 44 (u8s d))::(bw,blk 42 (w8C bp br vR))::(BX++LR))++(Lc++(Rc++(Dc++D)))) w0 w'∧Holds f [(7,.pointer (some ⟨bw,0,none⟩)),(9,.pointer (some ⟨b9,0,none⟩)),(11,.slice (some ⟨b51,0,none⟩) 4 4),(12,.int .i64 (i:Nat))]) (m:=4) ?_ ?_
 ·exact⟨0,0,L,R,[],by omega,rfl,Nat.zero_le _,hM.pr,hM.rr,hs,rfl,rfl,rfl,rfl,trivial⟩
 clear hs hs2
 rintro z' f w ⟨i,G,Lc,Rc,Dc,hi,rfl,hGi,hP,hR,hs,hf⟩
 have ob:=hf.chain
 obtain⟨g,rfl⟩:=ob
 by_cases hlt:i<4
 ·have hrm:(rmOf (rN n0 i) (rD d0 i) (rB e0 i)).Ok:=rmOf_ok (by unfold rN;split <;> omega) (by unfold rD;split <;> omega) (by unfold rB;split <;> omega)
  have ob:=runs_wkd (s:=s) hd32 hrm
  obtain⟨gf,of,kg,W,hofl⟩:=ob
  have hrg:=runs_g (s:=s) hrm d
  have hr32:=reachL_32 (s:=s) (rm:=rmOf (rN n0 i) (rD d0 i) (rB e0 i)) hd32
  have hrll:=reachL_len (s:=s) (d:=d) hrm
  have hre:=fun{w:World} h=>reach_spec (w0:=w) hP (ok.gotN G) (few.gotN G) (by omega) hd32 hrm h
  have hrr:=fun{w:World}{D1:List (Nat×Obj)} h=>reachR_spec (w0:=w) (hR.mono (D':=D1++(Dc++D)) mem_right) (ok.gotN G) (few.gotN G) (by omega) hd32 hrm h
  have hpa:=fun{w:World}{D1 L1:List (Nat×Obj)} (hp:PRep bp (s.gotN (G+(runs s (rmOf (rN n0 i) (rD d0 i) (rB e0 i)) [rootS d] ws0).2.g)) D1 L1) h=>pack_spec (w0:=w) hp (ok.gotN _) (few.gotN _) (by omega) hd32 hrm (by rw[runs_gotN];exact W.go) h
  have hpr:=fun{w:World}{D1 R1:List (Nat×Obj)} (hp:RRep br (s.gotN (G+(runs s (rmOf (rN n0 i) (rD d0 i) (rB e0 i)) [rootS d] ws0).2.g)) D1 R1) h=>packDR_spec (w0:=w) hp (ok.gotN _) (few.gotN _) (by omega) hd32 hrm (by rw[runs_gotN];exact W.go) h
  have hi0:i=0→(runs s (rmOf (rN n0 i) (rD d0 i) (rB e0 i)) [rootS d] ws0).1=0:=fun h=>by
   rw[h]
   show(runs s (rmOf n0 d0 e0) [rootS d] ws0).1=0
   rw[hbr];exact he0
  have ob:∃q,runs s (rmOf (rN n0 i) (rD d0 i) (rB e0 i)) [rootS d] ws0=q:=⟨_,rfl⟩
  obtain⟨q,hq0⟩:=ob
  rw[hq0] at hrg hr32 hrll W hi0
  simp only[runs_gotN,hq0,gotN_add,packR_gotN] at hre hrr hpa hpr
  have ob:∃pk,packR s q of=pk:=⟨_,rfl⟩
  obtain⟨pk,hpk⟩:=ob
  simp only[hpk] at hpa hpr
  refine CW.seq<|CW.seq<|CW.reg<|WL.val rfl (run_move)<|WL.val rfl (run_move)<|WL.val rfl (run_lenSl Tryz.underlying92 rfl)<|WL.val rfl (run_bT (run_lss rfl rfl) (by omega))<|WL.nil<|CW.cond rfl (fun h=>?_) (fun h=>?_)
  ·skip
   refine ck<|cq<|cB<|cq<|CW.any (A:=fun w=>Step [] [(b51,blk 30 [.int .i64 n0,.int .i64 d0,.int .i64 e0,.int .i64 (n0 - 1),.int .i64 d0,.int .i64 e0,.int .i64 n0,.int .i64 (d0 - 1),.int .i64 e0,.int .i64 n0,.int .i64 d0,.int .i64 (e0 - 1)]),(b9,blk 44 (u8s d)),(bw,blk 42 (w8C bp br vR))] w0 w) (C:=fun w=>Step [] [(b51,blk 30 [.int .i64 n0,.int .i64 d0,.int .i64 e0,.int .i64 (n0 - 1),.int .i64 d0,.int .i64 e0,.int .i64 n0,.int .i64 (d0 - 1),.int .i64 e0,.int .i64 n0,.int .i64 d0,.int .i64 (e0 - 1)]),(b9,blk 44 (u8s d)),(bw,blk 42 (w8C bp br vR))] w0 w) 1000000 15 mixedP rfl ?_
   replace hs:=hs.drew
   refine aM 0 rfl<|aV 1 rfl (fun w hs=>run_nilCheck rfl)<|aV 2 rfl (fun w hs=>run_field (o':=0) u42 rfl ty39 rfl rfl rfl)<|aV 3 rfl (fun w hs=>run_load1 ty39 rfl (hs.c2 rfl))<|aV 4 rfl (fun w hs=>run_loadN ty44 rfl hdl hs.a1)<|aM 5 rfl<|aM 6 rfl<|AL.val 7 rfl (by kernel_rfl) rfl (fun w hs=>run_ixSlN Tryz.underlying92 ty30 rfl rfl (by omega)) ?_
   refine aV 8 rfl (fun w hs=>run_loadN ty30 rfl rfl (hrow hlt hs))<|AL.one 9 (by kernel_rfl) rfl (Step.dropR (L1:=[_,_,_]) hs) (Step.dropR (L1:=[_,_,_]) hs) ?_
   refine wE rfl (run_call en17 rfl rfl) (hre (Two.live (A:=_::_::_::(BX++LR)) hs)) ?_
   rintro e w ⟨v1,Lv1,L1,D1,rfl,hP1,hv1,hq1⟩
   refine⟨_,rfl,?_⟩
   replace hs:=Two.put (A:=_::_::_::(BX++LR)) hs hq1
   refine wZ<|⟨rfl,?_⟩
   refine aM 10 rfl<|aV 11 rfl (fun w hs=>run_extract rfl rfl)<|aV 12 rfl (fun w hs=>run_extract rfl rfl)<|aV 13 rfl (fun w hs=>run_assign)<|aV 14 rfl (fun w hs=>run_assign)<|AL.end (by kernel_rfl) (Step.dropR (L1:=[_,_,_]) hs) (Step.dropR (L1:=[_,_,_]) hs) ?_
   refine cq<|CW.any (A:=fun w=>Step [] [(b51,blk 30 [.int .i64 n0,.int .i64 d0,.int .i64 e0,.int .i64 (n0 - 1),.int .i64 d0,.int .i64 e0,.int .i64 n0,.int .i64 (d0 - 1),.int .i64 e0,.int .i64 n0,.int .i64 d0,.int .i64 (e0 - 1)]),(b9,blk 44 (u8s d)),(bw,blk 42 (w8C bp br vR))] w0 w) (C:=fun w=>Step [] [(b51,blk 30 [.int .i64 n0,.int .i64 d0,.int .i64 e0,.int .i64 (n0 - 1),.int .i64 d0,.int .i64 e0,.int .i64 n0,.int .i64 (d0 - 1),.int .i64 e0,.int .i64 n0,.int .i64 d0,.int .i64 (e0 - 1)]),(b9,blk 44 (u8s d)),(bw,blk 42 (w8C bp br vR))] w0 w) 1000000 15 mixedP rfl ?_
   replace hs:=hs.drew
   refine aM 0 rfl<|aV 1 rfl (fun w hs=>run_nilCheck rfl)<|aV 2 rfl (fun w hs=>run_field (o':=1) u42 rfl ty40 rfl rfl rfl)<|aV 3 rfl (fun w hs=>run_load1 ty40 rfl (hs.c2 rfl))<|aV 4 rfl (fun w hs=>run_loadN ty44 rfl hdl hs.a1)<|aM 5 rfl<|aM 6 rfl<|AL.val 7 rfl (by kernel_rfl) rfl (fun w hs=>run_ixSlN Tryz.underlying92 ty30 rfl rfl (by omega)) ?_
   refine aV 8 rfl (fun w hs=>run_loadN ty30 rfl rfl (hrow hlt hs))<|AL.one 9 (by kernel_rfl) rfl (Step.dropR (L1:=[_,_,_]) hs) (Step.dropR (L1:=[_,_,_]) hs) ?_
   refine wE rfl (run_call en19 rfl rfl) (hrr (Two.rlive (A:=_::_::_::(BX++LR)) hs)) ?_
   rintro e w ⟨v2,Lv2,R1,D2,rfl,hR1,hv2,hq2⟩
   refine⟨_,rfl,?_⟩
   replace hs:=Two.rput (A:=_::_::_::(BX++LR)) hs hq2
   refine wZ<|⟨rfl,?_⟩
   refine aM 10 rfl<|aV 11 rfl (fun w hs=>run_extract rfl rfl)<|aV 12 rfl (fun w hs=>run_extract rfl rfl)<|aV 13 rfl (fun w hs=>run_assign)<|aV 14 rfl (fun w hs=>run_assign)<|AL.end (by kernel_rfl) (Step.dropR (L1:=[_,_,_]) hs) (Step.dropR (L1:=[_,_,_]) hs) ?_
   have hP2:PRep bp (s.gotN (G+q.2.g)) ((Lv2++D2)++((Lv1++D1)++(Dc++D))) L1:=hP1.mono fun p hp=>by
    simp only[mem_append] at hp⊢
    rcases hp with hp | hp | hp <;> simp[hp]
   refine cq<|CW.any (A:=fun w=>Step [] [(b51,blk 30 [.int .i64 n0,.int .i64 d0,.int .i64 e0,.int .i64 (n0 - 1),.int .i64 d0,.int .i64 e0,.int .i64 n0,.int .i64 (d0 - 1),.int .i64 e0,.int .i64 n0,.int .i64 d0,.int .i64 (e0 - 1)]),(b9,blk 44 (u8s d)),(bw,blk 42 (w8C bp br vR))] w0 w) (C:=fun w=>Step [] [(b51,blk 30 [.int .i64 n0,.int .i64 d0,.int .i64 e0,.int .i64 (n0 - 1),.int .i64 d0,.int .i64 e0,.int .i64 n0,.int .i64 (d0 - 1),.int .i64 e0,.int .i64 n0,.int .i64 d0,.int .i64 (e0 - 1)]),(b9,blk 44 (u8s d)),(bw,blk 42 (w8C bp br vR))] w0 w) 1000000 15 mixedP rfl ?_
   replace hs:=hs.drew
   refine aM 0 rfl<|aV 1 rfl (fun w hs=>run_nilCheck rfl)<|aV 2 rfl (fun w hs=>run_field (o':=0) u42 rfl ty39 rfl rfl rfl)<|aV 3 rfl (fun w hs=>run_load1 ty39 rfl (hs.c2 rfl))<|aV 4 rfl (fun w hs=>run_loadN ty44 rfl hdl hs.a1)<|aM 5 rfl<|aM 6 rfl<|AL.val 7 rfl (by kernel_rfl) rfl (fun w hs=>run_ixSlN Tryz.underlying92 ty30 rfl rfl (by omega)) ?_
   refine aV 8 rfl (fun w hs=>run_loadN ty30 rfl rfl (hrow hlt hs))<|AL.one 9 (by kernel_rfl) rfl (Step.dropR (L1:=[_,_,_]) hs) (Step.dropR (L1:=[_,_,_]) hs) ?_
   refine wE rfl (run_call en33 rfl rfl) (hpa hP2 (Two.live (A:=_::_::_::(BX++LR)) hs)) ?_
   rintro e w ⟨v3,Lv3,L3,D3,rfl,hP3,hv3,hq3⟩
   refine⟨_,rfl,?_⟩
   replace hs:=Two.put (A:=_::_::_::(BX++LR)) hs hq3
   refine wZ<|⟨rfl,?_⟩
   refine aM 10 rfl<|aV 11 rfl (fun w hs=>run_extract rfl rfl)<|aV 12 rfl (fun w hs=>run_extract rfl rfl)<|aV 13 rfl (fun w hs=>run_assign)<|aV 14 rfl (fun w hs=>run_assign)<|AL.end (by kernel_rfl) (Step.dropR (L1:=[_,_,_]) hs) (Step.dropR (L1:=[_,_,_]) hs) ?_
   have hR3:RRep br (s.gotN (G+q.2.g)) ((Lv3++D3)++((Lv2++D2)++((Lv1++D1)++(Dc++D)))) R1:=hR1.mono fun p hp=>by
    simp only[mem_append] at hp⊢
    rcases hp with hp | (hp | hp) | hp | hp <;> simp[hp]
   refine cq<|CW.any (A:=fun w=>Step [] [(b51,blk 30 [.int .i64 n0,.int .i64 d0,.int .i64 e0,.int .i64 (n0 - 1),.int .i64 d0,.int .i64 e0,.int .i64 n0,.int .i64 (d0 - 1),.int .i64 e0,.int .i64 n0,.int .i64 d0,.int .i64 (e0 - 1)]),(b9,blk 44 (u8s d)),(bw,blk 42 (w8C bp br vR))] w0 w) (C:=fun w=>Step [] [(b51,blk 30 [.int .i64 n0,.int .i64 d0,.int .i64 e0,.int .i64 (n0 - 1),.int .i64 d0,.int .i64 e0,.int .i64 n0,.int .i64 (d0 - 1),.int .i64 e0,.int .i64 n0,.int .i64 d0,.int .i64 (e0 - 1)]),(b9,blk 44 (u8s d)),(bw,blk 42 (w8C bp br vR))] w0 w) 1000000 15 mixedP rfl ?_
   replace hs:=hs.drew
   refine aM 0 rfl<|aV 1 rfl (fun w hs=>run_nilCheck rfl)<|aV 2 rfl (fun w hs=>run_field (o':=1) u42 rfl ty40 rfl rfl rfl)<|aV 3 rfl (fun w hs=>run_load1 ty40 rfl (hs.c2 rfl))<|aV 4 rfl (fun w hs=>run_loadN ty44 rfl hdl hs.a1)<|aM 5 rfl<|aM 6 rfl<|AL.val 7 rfl (by kernel_rfl) rfl (fun w hs=>run_ixSlN Tryz.underlying92 ty30 rfl rfl (by omega)) ?_
   refine aV 8 rfl (fun w hs=>run_loadN ty30 rfl rfl (hrow hlt hs))<|AL.one 9 (by kernel_rfl) rfl (Step.dropR (L1:=[_,_,_]) hs) (Step.dropR (L1:=[_,_,_]) hs) ?_
   refine wE rfl (run_call en39 rfl rfl) (hpr hR3 (Two.rlive (A:=_::_::_::(BX++LR)) hs)) ?_
   rintro e w ⟨v4,Lv4,R4,D4,rfl,hR4,hv4,hq4⟩
   refine⟨_,rfl,?_⟩
   replace hs:=Two.rput (A:=_::_::_::(BX++LR)) hs hq4
   refine wZ<|⟨rfl,?_⟩
   refine aM 10 rfl<|aV 11 rfl (fun w hs=>run_extract rfl rfl)<|aV 12 rfl (fun w hs=>run_extract rfl rfl)<|aV 13 rfl (fun w hs=>run_assign)<|aV 14 rfl (fun w hs=>run_assign)<|AL.end (by kernel_rfl) (Step.dropR (L1:=[_,_,_]) hs) (Step.dropR (L1:=[_,_,_]) hs) ?_
   have hsd:∀{X:List (Nat×Obj)}{w:World},Step [] X w0 w→(∀p∈Lv1,p∈X)→(∀p∈Lv2,p∈X)→CP 20 #[v1,v2] w (Ret0 (.bool true) w):=fun {X w} h h1 h2=>by
    have h3:=sameD_spec (w0:=w) (Dgs.own hv1 (fun p hp=>h.has p (h1 p hp)) hr32 (by omega)) (Dgs.own hv2 (fun p hp=>h.has p (h2 p hp)) hr32 (by omega))
    rw[decide_eq_true rfl] at h3;exact h3
   by_cases i0:i=0
   ·have hq1:=hi0 i0
    refine sr<|wm<|wm<|wV (run_bF (run_neq rfl rfl) (by exact fun h=>h rfl))<|wm<|wy<|wm<|wy<|wm<|wy<|wE rfl (run_call en20 rfl rfl) (hsd hs (fun p hp=>by simp[hp]) (fun p hp=>by simp[hp])) ?_
    rintro e w ⟨rfl,hq⟩
    refine⟨_,rfl,?_⟩
    replace hs:=hs.callE hq
    refine wy ?_;(first | refine WL.val rfl (run_notB rfl) ?_ | refine WL.val rfl (run_not rfl) ?_)
    refine wV (run_pickF rfl)<|wm<|wy<|wm<|wy<|wm<|wy<|wV (run_bF (run_neq rfl rfl) (by exact fun h=>h rfl))<|wV (run_pickF rfl)<|wm<|wy<|wm<|wy<|wV (run_toString u76 u9 u5 rfl (hv3.slH (fun p hp=>hs.has p (by simp[hp])))) ?_
    refine wy<|wm<|wy<|wV (run_toString u76 u9 u5 rfl (hv4.slH (fun p hp=>hs.has p (by simp[hp]))))<|wy<|wV (run_bF (run_strNe rfl rfl) (by exact fun h=>h rfl))<|wV (run_pickF rfl)<|wm<|wy<|wm<|wy<|wV (run_bT (run_eql rfl rfl) (by omega))<|wy<|wm ?_
    refine wy<|wm<|wy<|wV (run_bF (run_neq rfl rfl) (by exact fun h=>h hq1)) ?_
    refine wy ?_;(first | refine WL.val rfl (run_pickT rfl) ?_ | refine WL.val rfl (run_pickF rfl) ?_)
    refine wV (run_pickF rfl)<|wZ<|CW.cond rfl (fun h=>?_) (fun h=>?_)
    ·cases h
    refine ck<|cr<|wm<|wV (run_add (c:=((i+1:Nat):Int)) rfl rfl (by omega) (by omega))<|wA<|wZ<|(show _∧_ from⟨rfl,_,?_,i+1,G+q.2.g+q.2.g,L3,R4,(Lv4++D4)++((Lv3++D3)++((Lv2++D2)++((Lv1++D1)++Dc))),hlt,rfl,?_,?_,?_,?_,rfl,rfl,rfl,rfl,trivial⟩)
    ·omega
    ·omega
    ·exact hP3.mono fun p hp=>by
      simp only[mem_append] at hp⊢
      rcases hp with hp | (hp | hp) | (hp | hp) | hp | hp <;> simp[hp]
    ·exact hR4.mono fun p hp=>by
      simp only[mem_append] at hp⊢
      rcases hp with hp | (hp | hp) | (hp | hp) | (hp | hp) | hp | hp <;> simp[hp]
    ·simp only[append_assoc] at hs⊢;exact hs
   ·refine sr<|wm<|wm<|wV (run_bF (run_neq rfl rfl) (by exact fun h=>h rfl))<|wm<|wy<|wm<|wy<|wm<|wy<|wE rfl (run_call en20 rfl rfl) (hsd hs (fun p hp=>by simp[hp]) (fun p hp=>by simp[hp])) ?_
    rintro e w ⟨rfl,hq⟩
    refine⟨_,rfl,?_⟩
    replace hs:=hs.callE hq
    refine wy ?_;(first | refine WL.val rfl (run_notB rfl) ?_ | refine WL.val rfl (run_not rfl) ?_)
    refine wV (run_pickF rfl)<|wm<|wy<|wm<|wy<|wm<|wy<|wV (run_bF (run_neq rfl rfl) (by exact fun h=>h rfl))<|wV (run_pickF rfl)<|wm<|wy<|wm<|wy<|wV (run_toString u76 u9 u5 rfl (hv3.slH (fun p hp=>hs.has p (by simp[hp])))) ?_
    refine wy<|wm<|wy<|wV (run_toString u76 u9 u5 rfl (hv4.slH (fun p hp=>hs.has p (by simp[hp]))))<|wy<|wV (run_bF (run_strNe rfl rfl) (by exact fun h=>h rfl))<|wV (run_pickF rfl)<|wm<|wy<|wm<|wy<|wV (run_bF (run_eql rfl rfl) (by omega))<|wy<|wm ?_
    refine wz<|wz ?_
    refine wy ?_;(first | refine WL.val rfl (run_pickT rfl) ?_ | refine WL.val rfl (run_pickF rfl) ?_)
    refine wV (run_pickF rfl)<|wZ<|CW.cond rfl (fun h=>?_) (fun h=>?_)
    ·cases h
    refine ck<|cr<|wm<|wV (run_add (c:=((i+1:Nat):Int)) rfl rfl (by omega) (by omega))<|wA<|wZ<|(show _∧_ from⟨rfl,_,?_,i+1,G+q.2.g+q.2.g,L3,R4,(Lv4++D4)++((Lv3++D3)++((Lv2++D2)++((Lv1++D1)++Dc))),hlt,rfl,?_,?_,?_,?_,rfl,rfl,rfl,rfl,trivial⟩)
    ·omega
    ·omega
    ·exact hP3.mono fun p hp=>by
      simp only[mem_append] at hp⊢
      rcases hp with hp | (hp | hp) | (hp | hp) | hp | hp <;> simp[hp]
    ·exact hR4.mono fun p hp=>by
      simp only[mem_append] at hp⊢
      rcases hp with hp | (hp | hp) | (hp | hp) | (hp | hp) | hp | hp <;> simp[hp]
    ·simp only[append_assoc] at hs⊢;exact hs
  ·cases h
 ·obtain rfl:i=4:=by omega
  have okg:=ok.gotN G
  have hct:=fun{w:World} h1=>counts_abs (w0:=w) hP okg h1
  have hgf:=(few.gotN G)
  have hgg:=hgf.gets
  have hgp:=hgf.puts
  have ob:=hR.look okg.len
  obtain⟨ra,rc,_,hlk⟩:=ob
  refine CW.seq<|CW.seq<|CW.reg<|WL.val rfl (run_move)<|WL.val rfl (run_move)<|WL.val rfl (run_lenSl Tryz.underlying92 rfl)<|WL.val rfl (run_bF (run_lss rfl rfl) (by omega))<|WL.nil<|CW.cond rfl (fun h=>?_) (fun h=>?_)
  ·cases h
  refine CW.exit<|cq<|CW.quiet mixedP (by kernel_rfl) hs ?_
  refine qm<|qn rfl<|qF 0 u42 rfl ty39 rfl<|qV (fun w hs=>run_load1 ty39 rfl (hs.c2 rfl))<|QL.enter rfl (fun w=>run_call en21 rfl rfl) (fun w hs=>hct (Two.live (A:=_::_::_::(BX++LR)) hs)) ?_
  refine qm<|qn rfl<|qF 1 u42 rfl ty40 rfl<|qV (fun w hs=>run_load1 ty40 rfl (hs.c2 rfl))<|qn rfl<|qF 4 u54 rfl ty50 rfl<|qV (fun w hs=>run_loadN ty50 rfl rfl ((hlk (fun p hp=>hs.has p (by simp[hp]))).1.drop 4))<|qV (fun w hs=>run_eqCnt (by omega) (by omega) rfl rfl)<|qV (fun w hs=>run_assign)<|QL.nil (fun w hs=>?_)
  refine CW.ret ?_
  refine fin_ret1 rfl ?_
  exact⟨rfl,hs.clear⟩
end
end Go.Gx
