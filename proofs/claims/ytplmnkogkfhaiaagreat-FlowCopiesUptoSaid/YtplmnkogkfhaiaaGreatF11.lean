/- The document's Parts: walked. The document's going behind the parts: to. The document's Behind: walked. A directory's parts are few. No program in sight. Copying, plain: what is laid in another Store, blob by blob. No program in sight. The program's Copy: walked, for any two Stores, or one. The docu -/
import Derived.Test.YtplmnkogkfhaiaaGreatF10
import Derived.Test.YtplmnkogkfhaiaaGreatF1
set_option linter.unusedVariables false
set_option linter.unusedSimpArgs false
set_option maxRecDepth 100000
namespace Go.Gx
open Go.Proofs
attribute [local irreducible] shaL cutD frontL
section
variable{br:Nat}{s:AS}{D R:List (Nat×Obj)}{d:List UInt8}{w0:World}
theorem rraw_abs (hT:RRep br s D R) (ok:s.Ok) (hw:Lives (R++D) w0) (hd:d.length=32):Calls Tryz.prog 72 #[.pointer (some ⟨br,0,none⟩),.agg (u8s d).toArray] w0 fun e w'=>∃v' Lv',e=.returned (.tuple #[v',.bool (s.has d)])∧OwnSl 5 1 v' (s.raw d).length (u8s (s.raw d)) Lv'∧Step [] Lv' w0 w':=by
 have ob:=hT.open ok hw
 obtain⟨a,c,Lv,T,o⟩:=ob
 exact rraw_spec o ok hd
end
theorem get_raw{s:AS}{d:List UInt8} (h:(s.get d).2=0):s.raw d=(s.get d).1:=by
 unfold AS.get at h⊢
 unfold AS.raw
 cases hx:findX d s.X with
 | none=>rfl
 | some b=>
  rw[hx] at h
  simp only at h⊢
  by_cases hf:frontL b.x s.k=d
  ·rw[if_pos hf]
  ·rw[if_neg hf] at h;cases h
section
variable{S:List Nat}{a b q:Nat×Obj}{Lo X:List (Nat×Obj)}{w w':World}
theorem Step.pIn (h:Step S (a::(Lo++X)) w w'):Step S (Lo++(a::X)) w w':=h.perm List.perm_middle.symm
theorem Step.pOut (h:Step S (Lo++(a::X)) w w'):Step S (Lo++X) w w':=Step.tail (p:=a) (h.perm List.perm_middle)
end
section
variable{br:Nat}{s:AS}{D R:List (Nat×Obj)}{d:List UInt8}{w0:World}{m:List (List UInt8×Bool)}{v:Value}
set_option maxHeartbeats 8000000 in
theorem partsR_spec (hR:RRep br s D R) (ok:s.Ok) (hw:Lives (R++D) w0) (hv:Sl w0 33 v m.length (rowsSt m)) (h32:∀p∈m,p.1.length=32) (hm:m.length≤65536) (hgot:(d,true)∈m→(s.get d).2=0) (hd:d.length=32) :
  Calls Tryz.prog 158 #[.pointer (some ⟨br,0,none⟩),v,.agg (u8s d).toArray] w0 fun e w'=>∃u Lu,e=.returned u∧OwnSl 44 32 u (partsM s m d).length (digsL (partsM s m d)) Lu∧Step [] Lu w0 w':=by
 have hs:Step [] [] w0 w0:=Step.refl w0
 have hdl:(u8s d).length=32:=by rw[u8s,List.length_map,hd]
 have hgl:=get_len ok d
 have ob:=hv.form
 obtain⟨a,c,rfl⟩:=ob
 refine calls (n:=66) Tryz.func158 rfl rfl rfl ?_
 refine sr<|WL.box (cs:=u8s d) rfl rfl rfl hs (fun b5 w hs=>?_)
 refine wA<|wZ<|sr<|wA<|wZ<|CW.seqM (fun f w=>Step [] [(b5,blk 44 (u8s d))] w0 w∧Holds f [(0,.pointer (some ⟨br,0,none⟩)),(5,.pointer (some ⟨b5,0,none⟩)),(7,.bool (decide ((d,true)∈m)))]) ?_ ?_
 ·refine sr<|wA<|wZ<|cB<|CW.loop (fun z f w'=>∃i r,i≤m.length∧z=m.length - i∧decide ((d,true)∈m.take i)=r∧Step [] [(b5,blk 44 (u8s d))] w0 w'∧Holds f [(0,.pointer (some ⟨br,0,none⟩)),(1,.slice a m.length c),(5,.pointer (some ⟨b5,0,none⟩)),(7,.bool r),(8,.int .i64 (i:Nat))]) (m:=m.length) ?_ ?_
  ·exact⟨0,false,Nat.zero_le _,rfl,by simp,hs,rfl,rfl,rfl,rfl,rfl,trivial⟩
  clear hs
  rintro z f w ⟨i,r,hi,rfl,hr,hs,hf⟩
  have ob:=hf.chain
  obtain⟨g,rfl⟩:=ob
  by_cases hlt:i<m.length
  ·have ob:∃p,m[i]?=some p:=⟨_,List.getElem?_eq_getElem hlt⟩
   obtain⟨p,hp⟩:=ob
   obtain⟨pd,pb⟩:=p
   have hp32:=h32 _ (List.mem_of_getElem? hp)
   have hpl:(u8s pd).length=32:=by rw[u8s,List.length_map,hp32]
   have htk:m.take (i+1)=m.take i++[(pd,pb)]:=by rw[List.take_add_one,hp];rfl
   obtain⟨ba,oa,ca,hae,hat⟩:∃ba oa ca,Value.slice a m.length c=.slice (some ⟨ba,oa,none⟩) m.length ca∧At w0 ba oa (rowsSt m):=by
    obtain⟨_,⟨_,_,h1,h2⟩ | ⟨b,off,cc,h1,h2⟩⟩:=hv
    ·omega
    ·exact⟨b,off,cc,h1,h2⟩
   cases hae
   have hrow:∀{w},Step [] [] w0 w→At w ba (oa+i*33) (stC8 (pd,pb)):=fun h=>rowsSt_at h32 (hat.step h (by simp)) hp
   have hbl:(stC8 (pd,pb))[32]?=some (.bool pb):=by show(u8s pd++[Value.bool pb])[32]?=_;rw[List.getElem?_append_right (by omega),hpl];rfl
   have hrd:∀{w},Step [] [] w0 w→At w ba (oa+i*33) (u8s pd):=fun h=>(hrow h).left
   refine cq<|sr<|wm<|wm<|wV (run_lenSl u133 rfl)<|wV (run_bT (run_lss rfl rfl) (by omega))<|wZ<|CW.cond rfl (fun h=>?_) (fun h=>?_)
   ·cases r with
    | true=>
     refine ck<|cq<|cB<|CW.quiet mixedP (by kernel_rfl) hs ?_
     refine qm<|qm<|qz<|qz<|qz<|qz<|qz<|qz<|qz<|qz<|qz<|qz<|qz<|qz ?_
     refine qz<|qz<|qV (fun w hs=>run_pickT rfl)<|qV (fun w hs=>run_assign)<|QL.nil (fun w hs=>?_)
     refine cr<|wm<|wV (run_add (c:=((i+1:Nat):Int)) rfl rfl (by omega) (by omega))<|wA<|wZ<|(show _∧_ from⟨rfl,_,?_,i+1,true,hlt,rfl,?_,hs,rfl,rfl,rfl,rfl,rfl,trivial⟩)
     ·omega
     ·rw[htk];simp only[decide_eq_true_eq] at hr⊢;exact List.mem_append_left _ hr
    | false=>
     have hno:(d,true)∉m.take i:=by simpa using hr
     cases pb with
     | false=>
      refine ck<|cq<|cB<|CW.quiet mixedP (by kernel_rfl) hs ?_
      refine qm<|qm<|qy<|qm<|qy<|qm ?_
      refine qy ?_;(first | refine QL.val rfl (fun w hs=>run_ixSlN u133 ty137 rfl rfl (by omega)) ?_ | refine QL.val rfl (fun w hs=>run_ixSl u133 ty137 rfl rfl (by omega)) ?_)
      refine qy<|qF 32 u137 rfl ty4 rfl<|qy<|qV (fun w hs=>run_load1 ty4 rfl ((hrow hs.clear).cell (j:=32) hbl))<|qy<|qm<|qz<|qz<|qz<|qz<|qz<|qz<|qz ?_
      refine qy ?_;(first | refine QL.val rfl (fun w hs=>run_pickT rfl) ?_ | refine QL.val rfl (fun w hs=>run_pickF rfl) ?_)
      refine qV (fun w hs=>run_pickF rfl)<|qV (fun w hs=>run_assign)<|QL.nil (fun w hs=>?_)
      refine cr<|wm<|wV (run_add (c:=((i+1:Nat):Int)) rfl rfl (by omega) (by omega))<|wA<|wZ<|(show _∧_ from⟨rfl,_,?_,i+1,false,hlt,rfl,?_,hs,rfl,rfl,rfl,rfl,rfl,trivial⟩)
      ·omega
      ·rw[htk,decide_eq_false];simp[hno]
     | true=>
      by_cases hed:pd=d
      ·refine ck<|cq<|cB<|CW.quiet mixedP (by kernel_rfl) hs ?_
       refine qm<|qm<|qy<|qm<|qy<|qm ?_
       refine qy ?_;(first | refine QL.val rfl (fun w hs=>run_ixSlN u133 ty137 rfl rfl (by omega)) ?_ | refine QL.val rfl (fun w hs=>run_ixSl u133 ty137 rfl rfl (by omega)) ?_)
       refine qy<|qF 32 u137 rfl ty4 rfl<|qy<|qV (fun w hs=>run_load1 ty4 rfl ((hrow hs.clear).cell (j:=32) hbl))<|qy<|qm<|qy<|qm<|qy<|qm ?_
       refine qy ?_;(first | refine QL.val rfl (fun w hs=>run_ixSlN u133 ty137 rfl rfl (by omega)) ?_ | refine QL.val rfl (fun w hs=>run_ixSl u133 ty137 rfl rfl (by omega)) ?_)
       refine qy<|qF 0 u137 rfl ty44 rfl<|qy<|qV (fun w hs=>run_loadN ty44 rfl hpl (hrd hs.clear))<|qy<|qV (fun w hs=>run_loadN ty44 rfl hdl hs.a0)<|qy<|qV (fun w hs=>run_bT (run_eqDig hp32 hd rfl rfl) hed) ?_
       refine qy ?_;(first | refine QL.val rfl (fun w hs=>run_pickT rfl) ?_ | refine QL.val rfl (fun w hs=>run_pickF rfl) ?_)
       refine qV (fun w hs=>run_pickF rfl)<|qV (fun w hs=>run_assign)<|QL.nil (fun w hs=>?_)
       refine cr<|wm<|wV (run_add (c:=((i+1:Nat):Int)) rfl rfl (by omega) (by omega))<|wA<|wZ<|(show _∧_ from⟨rfl,_,?_,i+1,true,hlt,rfl,?_,hs,rfl,rfl,rfl,rfl,rfl,trivial⟩)
       ·omega
       ·rw[htk,decide_eq_true];simp[hed]
      ·refine ck<|cq<|cB<|CW.quiet mixedP (by kernel_rfl) hs ?_
       refine qm<|qm<|qy<|qm<|qy<|qm ?_
       refine qy ?_;(first | refine QL.val rfl (fun w hs=>run_ixSlN u133 ty137 rfl rfl (by omega)) ?_ | refine QL.val rfl (fun w hs=>run_ixSl u133 ty137 rfl rfl (by omega)) ?_)
       refine qy<|qF 32 u137 rfl ty4 rfl<|qy<|qV (fun w hs=>run_load1 ty4 rfl ((hrow hs.clear).cell (j:=32) hbl))<|qy<|qm<|qy<|qm<|qy<|qm ?_
       refine qy ?_;(first | refine QL.val rfl (fun w hs=>run_ixSlN u133 ty137 rfl rfl (by omega)) ?_ | refine QL.val rfl (fun w hs=>run_ixSl u133 ty137 rfl rfl (by omega)) ?_)
       refine qy<|qF 0 u137 rfl ty44 rfl<|qy<|qV (fun w hs=>run_loadN ty44 rfl hpl (hrd hs.clear))<|qy<|qV (fun w hs=>run_loadN ty44 rfl hdl hs.a0)<|qy<|qV (fun w hs=>run_bF (run_eqDig hp32 hd rfl rfl) hed) ?_
       refine qy ?_;(first | refine QL.val rfl (fun w hs=>run_pickT rfl) ?_ | refine QL.val rfl (fun w hs=>run_pickF rfl) ?_)
       refine qV (fun w hs=>run_pickF rfl)<|qV (fun w hs=>run_assign)<|QL.nil (fun w hs=>?_)
       refine cr<|wm<|wV (run_add (c:=((i+1:Nat):Int)) rfl rfl (by omega) (by omega))<|wA<|wZ<|(show _∧_ from⟨rfl,_,?_,i+1,false,hlt,rfl,?_,hs,rfl,rfl,rfl,rfl,rfl,trivial⟩)
       ·omega
       ·rw[htk,decide_eq_false];simp only[List.mem_append,hno,List.mem_singleton,Prod.mk.injEq,and_true,false_or];exact fun h=>hed h.symm
   ·cases h
  ·obtain rfl:i=m.length:=by omega
   rw[List.take_length] at hr
   rw[←hr]
   refine cq<|sr<|wm<|wm<|wV (run_lenSl u133 rfl)<|wV (run_bF (run_lss rfl rfl) (by omega))<|wZ<|CW.cond rfl (fun h=>?_) (fun h=>?_)
   ·cases h
   refine CW.exit ?_
   exact⟨rfl,hs,rfl,rfl,rfl,trivial⟩
 clear hs
 rintro f w ⟨hs,hf⟩
 have ob:=hf.chain
 obtain⟨g,rfl⟩:=ob
 by_cases hdm:(d,true)∈m
 ·rw[decide_eq_true hdm]
  have hraw:=get_raw (hgot hdm)
  have hpm:partsM s m d=(decL (s.get d).1).map (·.dig):=by rw[partsM,if_pos hdm];rfl
  refine cq<|sr<|wm<|wV (run_not rfl)<|wZ<|CW.cond rfl (fun h=>?_) (fun h=>?_)
  ·cases h
  refine ck<|sr<|wm<|wV (run_loadN ty44 rfl hdl hs.a0)<|wE rfl (run_call en72 rfl rfl) (rraw_abs hR ok (hw.after hs.clear) hd) ?_
  rintro e w ⟨vb,Lb,rfl,hvb,hq⟩
  refine⟨_,rfl,?_⟩
  replace hs:=Step.call0 hs hq
  refine wm<|wx rfl rfl<|wx rfl rfl<|wA<|wA<|wZ ?_
  rw[hraw] at hvb
  refine sr<|wm<|wE rfl (run_call en103 rfl rfl) (decodeR_at _ (hvb.sl hs) (hvb.room (by decide)) (by omega)) ?_
  rintro e w ⟨u,Le,rfl,hu,hoks,hle,hq⟩
  refine⟨_,rfl,?_⟩
  replace hs:=Step.call0 hs hq
  refine wm<|wx rfl rfl<|wx rfl rfl<|wA<|wA<|wZ ?_
  have ob:∃l,decL (s.get d).1=l:=⟨_,rfl⟩
  obtain⟨l,hll⟩:=ob
  rw[hll] at hu hoks hle hpm
  have ob:=hu.form
  obtain⟨ua,uc,rfl⟩:=ob
  refine sr<|wA<|wZ<|cq<|sr<|wA<|wZ<|cB<|CW.loop (fun z f w'=>∃i vp LP,i≤l.length∧z=l.length - i∧OwnSl 44 32 vp i (digsL ((l.take i).map (·.dig))) LP∧Step [] (LP++(Le++(Lb++[(b5,blk 44 (u8s d))]))) w0 w'∧Holds f [(0,.pointer (some ⟨br,0,none⟩)),(5,.pointer (some ⟨b5,0,none⟩)),(11,.slice ua l.length uc),(13,vp),(14,.int .i64 (i:Nat))]) (m:=l.length) ?_ ?_
  ·exact⟨0,_,[],Nat.zero_le _,rfl,OwnSl.nil _ _,hs,rfl,rfl,rfl,rfl,rfl,trivial⟩
  clear hs
  rintro z f w ⟨i,vp,LP,hil,rfl,hvp,hs,hf⟩
  have ob:=hf.chain
  obtain⟨g,rfl⟩:=ob
  by_cases hlt:i<l.length
  ·have ob:=hu.some1 (by omega)
   obtain⟨bu,cu,more,hu1,hu2,hu3⟩:=ob
   cases hu1
   subst hu2
   have ob:∃e,l[i]=e:=⟨_,rfl⟩
   obtain⟨e,he⟩:=ob
   have heo:=hoks e (he▸List.getElem_mem hlt)
   have hel:(u8s e.dig).length=32:=by rw[u8s,List.length_map,heo.1]
   have hent:At w bu (0+i*34) e.cells:=by
    have h2:=(At.of_blk (hs.has (bu,blk 115 (rows l++more)) (by simp))).left.ent hoks hlt
    rw[he] at h2;exact h2
   have hen2:At w bu (0+i*34+2) (u8s e.dig):=hent.drop 2
   refine cq<|sr<|wm<|wm<|wV (run_lenSl u116 rfl)<|wV (run_bT (run_lss rfl rfl) (by omega))<|wZ<|CW.cond rfl (fun h=>?_) (fun h=>?_)
   ·refine ck<|cq<|cB<|cr<|wm<|wm<|wm<|wV (run_ixSlN u116 ty115 rfl rfl (by omega))<|wF 2 u115 rfl ty44 rfl<|wV (run_loadN ty44 rfl hel hen2)<|WL.buildSlice (cs:=u8s e.dig) u35 ty44 rfl (by decide) rfl (filled1 hel rfl) rfl hs (fun b63 w hs=>?_)
    have hsl63:Sl w 32 (.slice (some ⟨b63,0,none⟩) 1 1) 1 (u8s e.dig):=.own1 hs (by rw[hel])
    replace hs:=Step.pIn hs
    refine WL.append u35 u35 ty44 rfl (by decide) rfl rfl (hvp) (hs) (hsl63) (Cells1.u8s _) (by omega) rfl (fun v64 Lv64 w hv64 hs=>?_)
    replace hs:=Step.pOut hs
    refine wA<|wZ<|cr<|wm<|wV (run_add (c:=((i+1:Nat):Int)) rfl rfl (by omega) (by omega))<|wA<|wZ ?_
    have hv2:OwnSl 44 32 v64 (i+1) (digsL ((l.take (i+1)).map (·.dig))) Lv64:=by
     rw[List.take_succ_eq_append_getElem hlt,he,List.map_append,List.map_singleton,digsL_snoc];exact hv64
    refine(show _∧_ from⟨rfl,_,?_,i+1,v64,Lv64,hlt,rfl,hv2,hs,rfl,rfl,rfl,rfl,rfl,trivial⟩)
    omega
   ·cases h
  ·obtain rfl:i=l.length:=by omega
   rw[List.take_length] at hvp
   refine cq<|sr<|wm<|wm<|wV (run_lenSl u116 rfl)<|wV (run_bF (run_lss rfl rfl) (by omega))<|wZ<|CW.cond rfl (fun h=>?_) (fun h=>?_)
   ·cases h
   refine CW.exit<|sr<|wm<|wA<|wZ<|CW.ret ?_
   refine fin_ret1 rfl ?_
   exact⟨_,LP,rfl,by rw[hpm,List.length_map];exact hvp,Step.dropR (L1:=LP) hs⟩
 ·rw[decide_eq_false hdm]
  refine cq<|sr<|wm<|wV (run_not rfl)<|wZ<|CW.cond rfl (fun h=>?_) (fun h=>?_)
  ·refine sr<|wA<|wZ<|CW.ret ?_
   refine fin_ret1 rfl ?_
   exact⟨_,[],rfl,by rw[partsM,if_neg hdm];exact OwnSl.nil _ _,hs.clear⟩
  ·cases h
end
theorem Goes.split{P:List UInt8→List (List UInt8)}{x:List UInt8}{ds g o g' o':List (List UInt8)}{k:Nat} (h:Goes P (x::ds) g o g' o' k):∃g2 o2 k1 k2,Goes P [x] g o g2 o2 k1∧Goes P ds g2 o2 g' o' k2∧k1≤k∧k2≤k:=by
 cases h with
 | skip hx h=>exact⟨g,o,1,_,.skip hx (.nil _ _),h,by omega,by omega⟩
 | go hx h1 h2=>exact⟨_,_,_,_,.go hx h1 (.nil _ _),h2,by omega,by omega⟩
theorem Goes.len{P:List UInt8→List (List UInt8)}{ds g o g' o':List (List UInt8)}{k:Nat} (h:Goes P ds g o g' o' k) (j:Nat) (hl:o.length+j≤g.length):o'.length+j≤g'.length:=by
 have ob:=h.ext
 obtain⟨n,t,rfl,rfl,hp⟩:=ob
 have:=hp.length_eq
 rw[List.length_append,List.length_append]
 omega
section
variable{S:List Nat}{a b q:Nat×Obj}{Lg Lo Lu A X B:List (Nat×Obj)}{w w':World}
theorem Step.fin0{L D L1:List (Nat×Obj)}{w0 w:World} (hw:Lives (L++D) w0) (h:Step ((L++D).map (·.1)) (L1++D) w0 w):Step (L.map (·.1)) L1 w0 w:=by
 have:=Step.fin (M:=[]) (L1:=L1) (D1:=[]) hw h
 simpa using this
theorem Step.tA (h:Step S (a::((b::(Lg++Lo))++B)) w w'):Step S (a::b::(Lg++(Lo++B))) w w':=by
 have e:(b::(Lg++Lo))++B=b::(Lg++(Lo++B)):=by simp[List.append_assoc]
 rw[e] at h;exact h
theorem Step.tC (h:Step S ((a::Lu)++((b::(Lg++Lo))++B)) w w'):Step S (a::b::(Lo++(Lg++(Lu++B)))) w w':=h.perm (by classical exact List.perm_iff_count.2 fun x=>by simp only[List.count_append,List.count_cons];omega)
theorem Step.tE (h:Step S (Lu++(b::a::(Lg++(Lo++B)))) w w'):Step S ((a::Lu)++((b::(Lg++Lo))++B)) w w':=h.perm (by classical exact List.perm_iff_count.2 fun x=>by simp only[List.count_append,List.count_cons];omega)
theorem Step.tF (h:Step S (b::a::(Lo++(Lg++(Lu++B)))) w w'):Step S ((b::(Lg++Lo))++B) w w':=Step.dropL (L1:=a::Lu) (h.perm (L':=(a::Lu)++((b::(Lg++Lo))++B)) (by classical exact List.perm_iff_count.2 fun x=>by simp only[List.count_append,List.count_cons];omega))
theorem Step.lvB (h:Step S (b::a::(Lg++(Lo++B))) w w'):Lives B w':=Lives.of (L2:=b::a::(Lg++Lo)) (h.perm (by classical exact List.perm_iff_count.2 fun x=>by simp only[List.count_append,List.count_cons];omega))
end
def GRep (bG br:Nat) (vL:Value) (g o:List (List UInt8)) (W:List (Nat×Obj)):Prop:=
 ∃vg Lg vo Lo,W=(bG,blk 225 [.pointer (some ⟨br,0,none⟩),vL,vg,vo])::(Lg++Lo)∧OwnSl 44 32 vg g.length (digsL g) Lg∧OwnSl 44 32 vo o.length (digsL o) Lo
section
variable{br bG:Nat}{s:AS}{D R LvL:List (Nat×Obj)}{r:List UInt8}{m:List (List UInt8×Bool)}{vL:Value}
set_option maxHeartbeats 16000000 in
theorem to_spec (hR:RRep br s D R) (ok:s.Ok) (hM:Met s r m) (hL:OwnSl 137 33 vL m.length (rowsSt m) LvL) (hLD:∀p∈LvL,p∈D) (hm:m.length≤65536) (h32m:∀p∈m,p.1.length=32) (hpl:∀d,(partsM s m d).length<1000000000) :
  ∀(k:Nat){d:List UInt8}{g o g' o':List (List UInt8)}{W:List (Nat×Obj)}{w0:World},Goes (partsM s m) [d] g o g' o' k→d∈ordM m→g.Nodup→(∀x∈g,x∈ordM m)→o.length≤g.length→GRep bG br vL g o W→Lives (W++(R++D)) w0→
  Calls Tryz.prog 120 #[.pointer (some ⟨bG,0,none⟩),.agg (u8s d).toArray] w0 fun e w'=>∃W',e=.returned (.tuple #[])∧GRep bG br vL g' o' W'∧Step (W.map (·.1)) W' w0 w':=by
 intro k
 induction k using Nat.strongRecOn with
 | ind k ih=>
 intro d g o g' o' W w0 hG hdU hnd hgU hol hW hw
 have hw0:=hw
 have hd32:=hM.len d hdU
 have hdl:(u8s d).length=32:=by rw[u8s,List.length_map,hd32]
 have hgl:=nodup_len hnd hgU
 have hom:=ordM_len m
 have hW0:=hW
 obtain⟨vg,Lg,vo,Lo,hWe,hvg,hvo⟩:=hW
 subst hWe
 have ob:∃B,R++D=B:=⟨_,rfl⟩
 obtain⟨B,hB⟩:=ob
 rw[hB] at hw
 have hs:Step (List.map (·.1) (((bG,blk 225 [.pointer (some ⟨br,0,none⟩),vL,vg,vo])::(Lg++Lo))++B)) (((bG,blk 225 [.pointer (some ⟨br,0,none⟩),vL,vg,vo])::(Lg++Lo))++B) w0 w0:=hw
 have ob:∃S,List.map (·.1) (((bG,blk 225 [.pointer (some ⟨br,0,none⟩),vL,vg,vo])::(Lg++Lo))++B)=S:=⟨_,rfl⟩
 obtain⟨S,hS⟩:=ob
 rw[hS] at hs
 have ob:=hvg.form
 obtain⟨ga,gc,rfl⟩:=ob
 have ob:=hL.form
 obtain⟨la,lc,rfl⟩:=ob
 have hfin:∀{W':List (Nat×Obj)}{w:World},Step S (W'++B) w0 w→Step (List.map (·.1) ((bG,blk 225 [.pointer (some ⟨br,0,none⟩),.slice la m.length lc,.slice ga g.length gc,vo])::(Lg++Lo))) W' w0 w:=fun h=>Step.fin0 hw (by rw[hS];exact h)
 have hhas:∀{w:World},Step S ((bG,blk 225 [.pointer (some ⟨br,0,none⟩),.slice la m.length lc,.slice ga g.length gc,vo])::(Lg++(Lo++B))) w0 w→Calls Tryz.prog 66 #[.slice ga g.length gc,.agg (u8s d).toArray] w (Ret0 (.bool (decide (d∈g))) w):=fun h=>hasR_spec (Dgs.own hvg (fun p hp=>h.has p (by simp[hp])) (fun x hx=>hM.len x (hgU x hx)) (by omega)) hd32
 have hDB:∀p∈D,p∈B:=fun p hp=>hB▸List.mem_append_right _ hp
 refine calls (n:=54) Tryz.func120 rfl rfl rfl ?_
 refine sr<|WL.box (cs:=u8s d) rfl rfl rfl hs (fun b3 w hs=>?_)
 refine wZ ?_
 replace hs:=Step.tA hs
 by_cases hdg:d∈g
 ·have hr:g'=g∧o'=o:=by
   cases hG with
   | skip _ h=>cases h;exact⟨rfl,rfl⟩
   | go h _ _=>exact absurd hdg h
  rw[decide_eq_true hdg] at hhas
  refine cq<|cq<|CW.quiet mixedP (by kernel_rfl) hs ?_
  refine qm<|qn rfl<|qF 2 u225 rfl ty35 rfl<|qV (fun w hs=>run_load1 ty35 rfl (hs.c1 (v:=.slice ga g.length gc) rfl))<|qV (fun w hs=>run_loadN ty44 rfl hdl hs.a0)<|QL.enter rfl (fun w=>run_call en66 rfl rfl) (fun w hs=>hhas hs.tail) ?_
  refine QL.nil (fun w hs=>?_)
  refine CW.cond rfl (fun h=>?_) (fun h=>?_)
  ·skip
   refine CW.ret ?_
   refine fin_ret0 rfl ?_
   exact⟨_,rfl,by rw[hr.1,hr.2];exact hW0,hfin (by rw[List.cons_append,List.append_assoc];exact hs.tail)⟩
  ·cases h
 ·obtain⟨g1,o1,k1,hg1,hg',ho',hk1⟩:∃g1 o1 k1,Goes (partsM s m) (partsM s m d) (g++[d]) o g1 o1 k1∧g'=g1∧o'=o1++[d]∧k1<k:=by
   cases hG with
   | skip h _=>exact absurd h hdg
   | go _ h1 h2=>cases h2;exact⟨_,_,_,h1,rfl,rfl,by omega⟩
  rw[decide_eq_false hdg] at hhas
  refine cq<|cq<|CW.quiet mixedP (by kernel_rfl) hs ?_
  refine qm<|qn rfl<|qF 2 u225 rfl ty35 rfl<|qV (fun w hs=>run_load1 ty35 rfl (hs.c1 (v:=.slice ga g.length gc) rfl))<|qV (fun w hs=>run_loadN ty44 rfl hdl hs.a0)<|QL.enter rfl (fun w=>run_call en66 rfl rfl) (fun w hs=>hhas hs.tail) ?_
  refine QL.nil (fun w hs=>?_)
  refine CW.cond rfl (fun h=>?_) (fun h=>?_)
  ·cases h
  refine ck<|CW.seqM (fun f w=>∃vg' Lg',OwnSl 44 32 vg' (g++[d]).length (digsL (g++[d])) Lg'∧Step S ((bG,blk 225 [.pointer (some ⟨br,0,none⟩),.slice la m.length lc,vg',vo])::(b3,blk 44 (u8s d))::(Lg'++(Lo++B))) w0 w∧Holds f [(0,.pointer (some ⟨bG,0,none⟩)),(3,.pointer (some ⟨b3,0,none⟩))]) ?_ ?_
  ·skip
   refine CW.any (A:=fun w=>Step S [(b3,blk 44 (u8s d))] w0 w) (C:=fun w=>Step S [(b3,blk 44 (u8s d)),(bG,blk 225 [.pointer (some ⟨br,0,none⟩),.slice la m.length lc,.slice ga g.length gc,vo])] w0 w) 10 11 mixedP rfl ?_
   replace hs:=hs.drew
   refine aM 0 rfl<|aM 1 rfl<|aV 2 rfl (fun w hs=>run_nilCheck rfl)<|aV 3 rfl (fun w hs=>run_field (o':=2) u225 rfl ty35 rfl rfl rfl)<|aV 4 rfl (fun w hs=>run_load1 ty35 rfl (hs.c1 rfl))<|aV 5 rfl (fun w hs=>run_loadN ty44 rfl hdl hs.a0)<|AL.one 6 (by kernel_rfl) rfl (by exact Step.dropR (L1:=[(b3,_)]) hs) (by exact Step.dropR (L1:=[_,_]) hs) ?_
   refine WL.buildSlice (cs:=u8s d) u35 ty44 rfl (by decide) rfl (filled1 hdl rfl) rfl hs (fun b18 w hs=>?_)
   have hsl18:Sl w 32 (.slice (some ⟨b18,0,none⟩) 1 1) 1 (u8s d):=.own1 hs (by rw[hdl])
   replace hs:=Step.in3 hs
   refine wZ<|⟨rfl,?_⟩
   refine AL.one 7 (by kernel_rfl) rfl (by exact Step.dropR (L1:=[(b3,_)]) (hs.dropL (L1:=Lg)).tail) (by exact Step.dropR (L1:=[_,_]) (hs.dropL (L1:=Lg)).tail) ?_
   refine WL.append u35 u35 ty44 rfl (by decide) rfl rfl (hvg) (hs) (hsl18) (Cells1.u8s _) (by omega) rfl (fun v19 Lv19 w hv19 hs=>?_)
   replace hs:=Step.out3 hs
   refine wZ<|⟨rfl,?_⟩
   refine AL.valA 8 rfl (by kernel_rfl) rfl (fun w hs=>run_nilCheck rfl) ?_
   refine aV 9 rfl (fun w hs=>run_field (o':=2) u225 rfl ty35 rfl rfl rfl)<|AL.one 10 (by kernel_rfl) rfl (by exact Step.dropR (L1:=[(b3,_)]) hs) (by exact Step.dropR (L1:=[_,_]) hs) ?_
   refine ws1 ty35 rfl rfl (hv19.one) (hs.swap) (fun w hs=>?_)
   refine wZ<|⟨rfl,?_⟩
   refine AL.relax (by kernel_rfl) ?_
   refine AL.end (by kernel_rfl) (by exact Step.dropR (L1:=[(b3,_)]) hs.tail) (trivial) ?_
   exact⟨rfl,v19,Lv19,by rw[List.length_append,digsL_snoc];exact hv19,hs,rfl,rfl,trivial⟩
  clear hs
  rintro f w ⟨vg',Lg',hvg',hs,hf⟩
  have ob:=hf.chain
  obtain⟨gg,rfl⟩:=ob
  refine CW.seqM (fun f w=>∃u Lu,OwnSl 44 32 u (partsM s m d).length (digsL (partsM s m d)) Lu∧Step S (((b3,blk 44 (u8s d))::Lu)++(((bG,blk 225 [.pointer (some ⟨br,0,none⟩),.slice la m.length lc,vg',vo])::(Lg'++Lo))++B)) w0 w∧Holds f [(0,.pointer (some ⟨bG,0,none⟩)),(3,.pointer (some ⟨b3,0,none⟩)),(4,u)]) ?_ ?_
  ·have hpr:=fun{w:World} (h:Step S ((bG,blk 225 [.pointer (some ⟨br,0,none⟩),.slice la m.length lc,vg',vo])::(b3,blk 44 (u8s d))::(Lg'++(Lo++B))) w0 w)=>partsR_spec (w0:=w) (d:=d) hR ok (by rw[hB];exact Step.lvB h) (hL.slH (fun p hp=>h.has p (by simp[hDB p (hLD p hp)]))) h32m hm (fun h=>hM.got _ h) hd32
   refine CW.any (A:=fun w=>Step S [(bG,blk 225 [.pointer (some ⟨br,0,none⟩),.slice la m.length lc,vg',vo]),(b3,blk 44 (u8s d))] w0 w) (C:=fun w=>Step S [(bG,blk 225 [.pointer (some ⟨br,0,none⟩),.slice la m.length lc,vg',vo]),(b3,blk 44 (u8s d))] w0 w) 1000000 11 mixedP rfl ?_
   replace hs:=hs.drew
   refine aM 0 rfl<|aV 1 rfl (fun w hs=>run_nilCheck rfl)<|aV 2 rfl (fun w hs=>run_field (o':=0) u225 rfl ty40 rfl rfl rfl)<|aV 3 rfl (fun w hs=>run_load1 ty40 rfl (hs.c0 (v:=.pointer (some ⟨br,0,none⟩)) rfl))<|aM 4 rfl<|aV 5 rfl (fun w hs=>run_nilCheck rfl)<|aV 6 rfl (fun w hs=>run_field (o':=1) u225 rfl ty133 rfl rfl rfl)<|aV 7 rfl (fun w hs=>run_load1 ty133 rfl (hs.c0 (v:=.slice la m.length lc) rfl))<|aV 8 rfl (fun w hs=>run_loadN ty44 rfl hdl hs.a1)<|AL.one 9 (by kernel_rfl) rfl (by exact Step.dropR (L1:=[_,_]) hs) (by exact Step.dropR (L1:=[_,_]) hs) ?_
   refine wE rfl (run_call en158 rfl rfl) (hpr hs) ?_
   rintro e w ⟨u,Lu,rfl,hu,hq⟩
   refine⟨_,rfl,?_⟩
   replace hs:=Step.call0 hs hq
   refine wZ<|⟨rfl,?_⟩
   refine aV 10 rfl (fun w hs=>run_assign)<|AL.end (by kernel_rfl) (by exact Step.dropR (L1:=[_,_]) (hs.dropL (L1:=Lu))) (by exact Step.dropR (L1:=[_,_]) (hs.dropL (L1:=Lu))) ?_
   exact⟨rfl,u,Lu,hu,Step.tE hs,rfl,rfl,rfl,trivial⟩
  clear hs
  rintro f w ⟨u,Lu,hu,hs,hf⟩
  have ob:=hf.chain
  obtain⟨gg,rfl⟩:=ob
  have ob:∃l,partsM s m d=l:=⟨_,rfl⟩
  obtain⟨l,hl⟩:=ob
  have hll:=hpl d
  rw[hl] at hu hg1 hll
  have hlU:∀x∈l,x∈ordM m:=fun x hx=>hM.sub d hdU x (hl▸hx)
  have ob:=hu.form
  obtain⟨ua,uc,rfl⟩:=ob
  have hnd1:(g++[d]).Nodup:=by
   rw[List.nodup_append]
   refine⟨hnd,List.nodup_cons.2 ⟨by simp,List.nodup_nil⟩,fun a ha b hb he=>?_⟩
   rw[List.mem_singleton] at hb
   exact hdg (hb▸he▸ha)
  have hgU1:∀x∈g++[d],x∈ordM m:=fun x hx=>by
   rcases List.mem_append.1 hx with hx | hx
   ·exact hgU x hx
   ·rw[List.mem_singleton] at hx;exact hx▸hdU
  refine CW.seqM (fun f w=>∃vg2 Lg2 vo2 Lo2,OwnSl 44 32 vg2 g1.length (digsL g1) Lg2∧OwnSl 44 32 vo2 o1.length (digsL o1) Lo2∧o1.length≤65536∧Step S ((b3,blk 44 (u8s d))::(bG,blk 225 [.pointer (some ⟨br,0,none⟩),.slice la m.length lc,vg2,vo2])::(Lo2++(Lg2++(Lu++B)))) w0 w∧Holds f [(0,.pointer (some ⟨bG,0,none⟩)),(3,.pointer (some ⟨b3,0,none⟩))]) ?_ ?_
  ·refine sr<|wA<|wZ<|cB<|CW.loop (fun z f w'=>∃i gi oi Wi ki,i≤l.length∧z=l.length - i∧Goes (partsM s m) (l.drop i) gi oi g1 o1 ki∧ki≤k1∧gi.Nodup∧(∀x∈gi,x∈ordM m)∧oi.length+1≤gi.length∧GRep bG br (.slice la m.length lc) gi oi Wi∧Step S (((b3,blk 44 (u8s d))::Lu)++(Wi++B)) w0 w'∧Holds f [(0,.pointer (some ⟨bG,0,none⟩)),(3,.pointer (some ⟨b3,0,none⟩)),(4,.slice ua l.length uc),(5,.int .i64 (i:Nat))]) (m:=l.length) ?_ ?_
   ·exact⟨0,g++[d],o,_,k1,Nat.zero_le _,rfl,hg1,Nat.le_refl _,hnd1,hgU1,by rw[List.length_append,List.length_singleton];omega,⟨vg',Lg',vo,Lo,rfl,hvg',hvo⟩,hs,rfl,rfl,rfl,rfl,trivial⟩
   clear hs
   rintro z f w ⟨i,gi,oi,Wi,ki,hil,rfl,hGi,hki,hndi,hgUi,holi,hWi,hs,hf⟩
   have ob:=hf.chain
   obtain⟨gs,rfl⟩:=ob
   by_cases hlt:i<l.length
   ·have ob:∃x,l[i]=x:=⟨_,rfl⟩
    obtain⟨x,hx⟩:=ob
    have hxm:x∈l:=hx▸List.getElem_mem hlt
    have hx32:=hM.len x (hlU x hxm)
    have hxl:(u8s x).length=32:=by rw[u8s,List.length_map,hx32]
    rw[List.drop_eq_getElem_cons hlt,hx] at hGi
    have ob:=hGi.split
    obtain⟨g2,o2,ka,kb,hGx,hGr,hka,hkb⟩:=ob
    have ob:=hu.some1 (by omega)
    obtain⟨bu,cu,more,hu1,hu2,hu3⟩:=ob
    cases hu1
    subst hu2
    have hxat:At w bu (0+i*32) (u8s x):=digsL_at (fun y hy=>hM.len y (hlU y hy)) (At.of_blk (hs.has (bu,blk 44 (digsL l++more)) (by simp))).left (by rw[List.getElem?_eq_getElem hlt,hx])
    have hto:=fun h=>ih ka (by omega) (w0:=w) hGx (hlU x hxm) hndi hgUi (by omega) hWi h
    rw[hB] at hto
    refine cq<|sr<|wm<|wm<|wV (run_lenSl u35 rfl)<|wV (run_bT (run_lss rfl rfl) (by omega))<|wZ<|CW.cond rfl (fun h=>?_) (fun h=>?_)
    ·refine ck<|cq<|cB<|cr<|wm<|wm<|wm<|wV (run_ixSlN u35 ty44 rfl rfl (by omega))<|wV (run_loadN ty44 rfl hxl hxat)<|wE rfl (run_call en120 rfl rfl) (hto (Own.live (A:=[_,_]) hs)) ?_
     rintro e w ⟨W2,rfl,hG2,hq⟩
     refine⟨_,rfl,?_⟩
     replace hs:=Own.set (A:=[_,_]) hs hq
     refine wZ<|cr<|wm<|wV (run_add (c:=((i+1:Nat):Int)) rfl rfl (by omega) (by omega))<|wA<|wZ<|(show _∧_ from⟨rfl,_,?_,i+1,g2,o2,W2,kb,hlt,rfl,hGr,Nat.le_trans hkb hki,hGx.nodup hndi,?_,hGx.len 1 holi,hG2,hs,rfl,rfl,rfl,rfl,trivial⟩)
     ·omega
     ·exact hGx.sub hM.sub (fun y hy=>by obtain rfl:=List.mem_singleton.1 hy;exact hlU _ hxm) hgUi
    ·cases h
   ·obtain rfl:i=l.length:=by omega
    rw[List.drop_length] at hGi
    refine cq<|sr<|wm<|wm<|wV (run_lenSl u35 rfl)<|wV (run_bF (run_lss rfl rfl) (by omega))<|wZ<|CW.cond rfl (fun h=>?_) (fun h=>?_)
    ·cases h
    have hgl1:=nodup_len hndi hgUi
    cases hGi
    obtain⟨vg2,Lg2,vo2,Lo2,hWe,hv2,hv3⟩:=hWi
    subst hWe
    refine CW.exit ?_
    exact⟨rfl,vg2,Lg2,vo2,Lo2,hv2,hv3,by omega,Step.tC hs,rfl,rfl,trivial⟩
  clear hs
  rintro f w ⟨vg2,Lg2,vo2,Lo2,hv2,hv3,hol2,hs,hf⟩
  have ob:=hf.chain
  obtain⟨gt,rfl⟩:=ob
  have ob:=hv3.form
  obtain⟨oa,oc,rfl⟩:=ob
  refine CW.any (A:=fun w=>Step S [(b3,blk 44 (u8s d))] w0 w) (C:=fun w=>Step S [(b3,blk 44 (u8s d)),(bG,blk 225 [.pointer (some ⟨br,0,none⟩),.slice la m.length lc,vg2,.slice oa o1.length oc])] w0 w) 10 11 mixedP rfl ?_
  replace hs:=hs.drew
  refine aM 0 rfl<|aM 1 rfl<|aV 2 rfl (fun w hs=>run_nilCheck rfl)<|aV 3 rfl (fun w hs=>run_field (o':=3) u225 rfl ty35 rfl rfl rfl)<|aV 4 rfl (fun w hs=>run_load1 ty35 rfl (hs.c1 rfl))<|aV 5 rfl (fun w hs=>run_loadN ty44 rfl hdl hs.a0)<|AL.one 6 (by kernel_rfl) rfl (by exact Step.dropR (L1:=[(b3,_)]) hs) (by exact Step.dropR (L1:=[_,_]) hs) ?_
  refine WL.buildSlice (cs:=u8s d) u35 ty44 rfl (by decide) rfl (filled1 hdl rfl) rfl hs (fun b50 w hs=>?_)
  have hsl50:Sl w 32 (.slice (some ⟨b50,0,none⟩) 1 1) 1 (u8s d):=.own1 hs (by rw[hdl])
  replace hs:=Step.in3 hs
  refine wZ<|⟨rfl,?_⟩
  refine AL.one 7 (by kernel_rfl) rfl (by exact Step.dropR (L1:=[(b3,_)]) (hs.dropL (L1:=Lo2)).tail) (by exact Step.dropR (L1:=[_,_]) (hs.dropL (L1:=Lo2)).tail) ?_
  refine WL.append u35 u35 ty44 rfl (by decide) rfl rfl (hv3) (hs) (hsl50) (Cells1.u8s _) (by omega) rfl (fun v51 Lv51 w hv51 hs=>?_)
  replace hs:=Step.out3 hs
  refine wZ<|⟨rfl,?_⟩
  refine AL.valA 8 rfl (by kernel_rfl) rfl (fun w hs=>run_nilCheck rfl) ?_
  refine aV 9 rfl (fun w hs=>run_field (o':=3) u225 rfl ty35 rfl rfl rfl)<|AL.one 10 (by kernel_rfl) rfl (by exact Step.dropR (L1:=[(b3,_)]) hs) (by exact Step.dropR (L1:=[_,_]) hs) ?_
  refine ws1 ty35 rfl rfl (hv51.one) (hs.swap) (fun w hs=>?_)
  refine wZ<|⟨rfl,?_⟩
  refine AL.relax (by kernel_rfl) ?_
  refine AL.end (by kernel_rfl) (by exact Step.dropR (L1:=[(b3,_)]) hs.tail) (trivial) ?_
  refine fin_end0 rfl ?_
  have hsF:=Step.tF hs
  refine⟨_,rfl,⟨vg2,Lg2,v51,Lv51,rfl,by rw[hg'];exact hv2,?_⟩,hfin hsF⟩
  rw[ho',List.length_append,digsL_snoc];exact hv51
end
theorem bld_go (a b:Option Addr) (n c:Nat) (w:World):(Instr.build 225 #[(0,.pointer a),(1,.slice b n c)]).run Tryz.prog w=.ok (.agg #[.pointer a,.slice b n c,.slice none 0 0,.slice none 0 0]) w:=by kernel_rfl
theorem Step.nilR{S:List Nat}{L:List (Nat×Obj)}{w w':World} (h:Step S (L++[]) w w'):Step S L w w':=by rw[List.append_nil] at h;exact h
section
variable{br:Nat}{s:AS}{D R LvL:List (Nat×Obj)}{r:List UInt8}{m:List (List UInt8×Bool)}{vL:Value}{gf of:List (List UInt8)}{k:Nat}{w0:World}
theorem behindR_spec (hR:RRep br s D R) (ok:s.Ok) (hM:Met s r m) (hL:OwnSl 137 33 vL m.length (rowsSt m) LvL) (hLD:∀p∈LvL,p∈D) (hm:m.length≤65536) (h32m:∀p∈m,p.1.length=32) (hpl:∀d,(partsM s m d).length<1000000000) (hG:Goes (partsM s m) [r] [] [] gf of k) (hw:Lives (R++D) w0) :
  Calls Tryz.prog 71 #[.pointer (some ⟨br,0,none⟩),vL] w0 fun e w'=>∃v Lv,e=.returned v∧OwnSl 44 32 v of.length (digsL of) Lv∧Step [] Lv w0 w':=by
 have hrU:=List.mem_of_getElem? hM.head
 have hr32:=hM.len r hrU
 have hrl:(u8s r).length=32:=by rw[u8s,List.length_map,hr32]
 obtain⟨pb,hp0⟩:∃pb,m[0]?=some (r,pb):=by
  cases hme:m with
  | nil=>have h:=hM.head;rw[hme] at h;cases h
  | cons p rest=>
   obtain⟨pd,pb⟩:=p
   have h:=hM.head
   rw[hme,ordM_head pb rest] at h
   obtain rfl:=Option.some.inj h
   exact⟨pb,rfl⟩
 have hm0:0<m.length:=(List.getElem?_eq_some_iff.1 hp0).1
 have hL0:=hL
 have ob:=hL.some1 hm0
 obtain⟨bl,cl,more,hl1,hl2,hl3⟩:=ob
 subst hl1
 have hs:Step [] [] w0 w0:=Step.refl w0
 have hrow:At w0 bl (0+0*33) (u8s r):=(rowsSt_at h32m (At.of_blk (hw.has (bl,blk 137 (rowsSt m++more)) (List.mem_append_right _ (hLD _ (by rw[hl2];simp))))).left hp0).left
 refine calls (n:=20) Tryz.func71 rfl rfl rfl ?_
 refine sr<|wA<|wZ<|sr<|wm<|wm<|wV (run_build rfl (bld_go _ _ _ _ _))<|WL.box (cs:=[.pointer (some ⟨br,0,none⟩),.slice (some ⟨bl,0,none⟩) m.length cl,.slice none 0 0,.slice none 0 0]) rfl rfl rfl hs (fun b9 w hs=>?_)
 refine wA<|wZ ?_
 have hG0:GRep b9 br (.slice (some ⟨bl,0,none⟩) m.length cl) [] [] [(b9,blk 225 [.pointer (some ⟨br,0,none⟩),.slice (some ⟨bl,0,none⟩) m.length cl,.slice none 0 0,.slice none 0 0])]:=⟨_,[],_,[],rfl,OwnSl.nil _ _,OwnSl.nil _ _⟩
 refine sr<|wm<|wm<|wV (run_ixSlN (i:=0) u133 ty137 rfl rfl (by omega))<|wF 0 u137 rfl ty44 rfl<|wV (run_loadN ty44 rfl hrl (hrow.step hs.clear (by simp)))<|wE rfl (run_call en120 rfl rfl) (to_spec (w0:=w) hR ok hM hL0 hLD hm h32m hpl k hG hrU List.nodup_nil (fun x hx=>by cases hx) (Nat.le_refl _) hG0 (Lives.mk (Step.call0 hw hs))) ?_
 rintro e w ⟨W1,rfl,hG1,hq⟩
 refine⟨_,rfl,?_⟩
 replace hs:=Step.nilR (Step.call (L1:=[_]) (L:=[]) hs hq)
 refine wZ ?_
 obtain⟨vg,Lg,vo,Lo,hWe,hvg,hvo⟩:=hG1
 subst hWe
 refine sr<|wm<|wn rfl<|wF 3 u225 rfl ty35 rfl<|wl ty35 rfl (hs.c0 (v:=vo) rfl)<|wA<|wZ<|CW.ret ?_
 refine fin_ret1 rfl ?_
 exact⟨_,Lo,rfl,hvo,Step.dropL (L1:=Lg) hs.tail⟩
end
end Go.Gx
namespace Go.Gx
open Go.Proofs
theorem entsP_len{bs:List UInt8}:∀{n:Nat}{a:List UInt8}{p q:Nat}{l:List Ent},entsP bs n a p=.ok (l,q)→l.length=n
 | 0,a,p,q,l,h=>by
  unfold entsP at h
  injection h with h;injection h with h1 h2
  subst h1;rfl
 | n+1,a,p,q,l,h=>by
  unfold entsP at h
  split at h
  ·cases h
  ·rename_i x q' h1
   split at h
   ·cases h
   ·rename_i l' r h2
    injection h with h;injection h with h3 h4
    subst h3
    rw[List.length_cons,entsP_len h2]
theorem decL_len (y:List UInt8):(decL y).length≤1024:=by
 unfold decL
 split
 ·unfold readP
  split
  ·exact Nat.zero_le _
  ·rename_i l q h
   split
   ·exact Nat.zero_le _
   ·unfold decP at h
    split at h
    ·cases h
    ·split at h
     ·split at h
      ·cases h
      ·rename_i n q' hm
       have h1:=entsP_len h
       have h2:=(mostP_ok hm).2.2
       show l.length≤1024
       omega
     ·cases h
 ·exact Nat.zero_le _
theorem partsM_len (s:AS) (m:List (List UInt8×Bool)) (d:List UInt8):(partsM s m d).length<1000000000:=by
 unfold partsM
 split
 ·unfold partsD
  rw[List.length_map]
  have:=decL_len (s.get d).1
  omega
 ·decide
end Go.Gx
namespace Go.Gx
open Go.Proofs
attribute [local irreducible] shaL cutD frontL
def copyR (t:AS):List (List UInt8×List UInt8)→Nat→Nat×Int×AS
 | [],n=>(n,0,t)
 | (d,b)::l,n=>if (t.put b).2.1≠0 then (n,(((t.put b).2.1:Nat):Int),(t.put b).2.2) else copyR (t.put b).2.2 l (if (t.put b).2.2.stamp d=t.stamp d then n else n+1)
section
variable{t:AS}{d b:List UInt8}{l:List (List UInt8×List UInt8)}{n:Nat}
theorem copyR_bad (h:(t.put b).2.1≠0):copyR t ((d,b)::l) n=(n,(((t.put b).2.1:Nat):Int),(t.put b).2.2):=by rw[copyR,if_pos h]
theorem copyR_same (h:(t.put b).2.1=0) (h2:(t.put b).2.2.stamp d=t.stamp d):copyR t ((d,b)::l) n=copyR (t.put b).2.2 l n:=by rw[copyR,if_neg (fun hh=>hh h),if_pos h2]
theorem copyR_new (h:(t.put b).2.1=0) (h2:¬(t.put b).2.2.stamp d=t.stamp d):copyR t ((d,b)::l) n=copyR (t.put b).2.2 l (n+1):=by rw[copyR,if_neg (fun hh=>hh h),if_neg h2]
def cpR (r:Int×WS) (s t:AS) (of:List (List UInt8)):Nat×Int×AS:=if r.1≠0 then (0,r.1,t) else copyR t (of.map fun x=>(x,(s.get x).1)) 0
theorem cpR_bad{r:Int×WS}{s t:AS}{of:List (List UInt8)} (h:r.1≠0):cpR r s t of=(0,r.1,t):=if_pos h
theorem cpR_ok{r:Int×WS}{s t:AS}{of:List (List UInt8)} (h:r.1=0):cpR r s t of=copyR t (of.map fun x=>(x,(s.get x).1)) 0:=if_neg (fun hh=>hh h)
theorem put_32 (ok:t.Ok) (y:List UInt8):(t.put y).1.length=32:=by
 unfold AS.put
 simp only
 split
 ·rfl
 ·have h1:∀{r:List UInt8×Nat×AS},r=(match ({ t with puts:=t.puts+1 }:AS).lay (frontL y t.k) y with | some s2=>(frontL y t.k,0,s2) | none=>(zD,43,{ t with puts:=t.puts+1 }))→r.1.length=32:=fun {r} hr=>by
   cases hl:({ t with puts:=t.puts+1 }:AS).lay (frontL y t.k) y with
   | none=>rw[hl] at hr;rw[hr];rfl
   | some s2=>rw[hl] at hr;rw[hr];exact frontL_len ok.k2
  split
  ·split
   ·exact frontL_len ok.k2
   ·split
    ·rfl
    ·exact h1 rfl
  ·exact h1 rfl
theorem put_there (h:t.get d=(b,0)) (hp:(t.put b).2.1=0):(t.put b).2.2 = { t with puts:=t.puts+1 }:=by
 unfold AS.get at h
 cases hx:findX d t.X with
 | none=>rw[hx] at h;simp at h
 | some x=>
  rw[hx] at h
  simp only at h
  by_cases hf:frontL x.x t.k=d
  ·rw[if_pos hf] at h
   obtain rfl:x.x=b:=congrArg Prod.fst h
   unfold AS.put at hp⊢
   simp only at hp⊢
   split
   ·rfl
   ·rw[hf,hx]
    simp only[if_true]
  ·rw[if_neg hf] at h
   simp at h
theorem copyR_self:∀{l:List (List UInt8×List UInt8)}{t:AS},(∀p∈l,t.get p.1=(p.2,0))→(copyR t l 0).1=0
 | [],t,_=>rfl
 | (d,b)::l,t,h=>by
  by_cases hp:(t.put b).2.1=0
  ·have h1:=put_there (h (d,b) (by simp)) hp
   have h2:(t.put b).2.2.stamp d=t.stamp d:=by rw[h1];rfl
   rw[copyR_same hp h2]
   exact copyR_self fun p hp=>by
    rw[h1]
    show t.get p.1=_
    exact h p (by simp[hp])
  ·rw[copyR_bad hp]
end
theorem Met.of_le{s:AS}{d:List UInt8}{m:List (List UInt8×Bool)}{gf of:List (List UInt8)}{k:Nat} (h:Met s d m) (hG:Goes (partsM s m) [d] [] [] gf of k):of.length≤m.length∧∀x∈of,x∈ordM m:=by
 have h1:=hG.nodup List.nodup_nil
 have h2:=hG.sub h.sub (fun x hx=>by obtain rfl:=List.mem_singleton.1 hx;exact List.mem_of_getElem? h.head) (fun x hx=>by cases hx)
 have ob:=hG.ext
 obtain⟨n,t,e1,e2,hp⟩:=ob
 rw[List.nil_append] at e1 e2
 subst e1
 subst e2
 have h3:=nodup_len h1 h2
 have h4:=ordM_len m
 exact⟨by rw[hp.length_eq];omega,fun x hx=>h2 x (hp.mem_iff.1 hx)⟩
section
variable{S:List Nat}{a p q:Nat×Obj}{A B C E O Z X Y:List (Nat×Obj)}{w w':World}
theorem Step.k7 (h:Step S (a::(O++(A++(B++(E++((p::q::Z)++X)))))) w w'):Step S [a,p,q] w w':=Step.dropR (L1:=[a,p,q]) (L2:=O++(A++(B++(E++(Z++X))))) (h.perm (by classical exact List.perm_iff_count.2 fun x=>by simp only[List.count_append,List.count_cons,List.count_nil];omega))
theorem Step.k8 (h:Step S (a::(O++(A++(B++(C++(E++((p::q::Z)++X))))))) w w'):Step S [a,p,q] w w':=Step.dropR (L1:=[a,p,q]) (L2:=O++(A++(B++(C++(E++(Z++X)))))) (h.perm (by classical exact List.perm_iff_count.2 fun x=>by simp only[List.count_append,List.count_cons,List.count_nil];omega))
theorem Step.fin3 (hw:Lives (A++(O++X)) w) (h:Step (List.map (·.1) (A++(O++X))) (Y++X) w w'):Step (List.map (·.1) (A++O)) Y w w':=
 Step.narrow (W:=A++O) (D:=X) (by rw[List.append_assoc];exact hw) (by rw[List.append_assoc];exact h)
end
section
variable{bf tp:Nat}{s t1:AS}{Q:List (Nat×Obj)→List (Nat×Obj)→Prop}{Lt O D:List (Nat×Obj)}{d:List UInt8}{r:Int×WS}{rn rd rb:Int}{N k kw:Nat}{gf of:List (List UInt8)}{w0:World}
def WkTo (bf tp:Nat) (s t1:AS) (Q:List (Nat×Obj)→List (Nat×Obj)→Prop) (Lt O D:List (Nat×Obj)) (r:Int×WS) (w:World) (e:Ending) (w':World):Prop:=
 ∃v L1 O1 D1 M,e=.returned (.tuple #[v,.int .i64 r.1])∧PRep tp t1 (D1++D) L1∧Q (D1++D) O1∧(r.1=0→∃bm,v=.pointer (some ⟨bm,0,none⟩)∧MetRep bm s r.2.m (D1++D) M)∧Step (List.map (·.1) (Lt++O)) (L1++(O1++(M++D1))) w w'
set_option maxHeartbeats 8000000 in
theorem copyP_spec (hQ:∀{D1 D2 O1:List (Nat×Obj)},Q D1 O1→(∀p∈D1,p∈D2)→Q D2 O1)
  (hwf:∀{w:World},Lives (Lt++(O++D)) w→Calls Tryz.prog 69 #[.pointer (some ⟨bf,0,none⟩)] w (Ret0 (.int .i64 (kw:Nat)) w))
  (hwt:∀{w:World},Lives (Lt++(O++D)) w→Calls Tryz.prog 69 #[.pointer (some ⟨tp,0,none⟩)] w (Ret0 (.int .i64 (kw:Nat)) w))
  (hwk:∀{w:World},Lives (Lt++(O++D)) w→Calls Tryz.prog 64 #[.pointer (some ⟨bf,0,none⟩),.agg (u8s d).toArray,.agg #[.int .i64 rn,.int .i64 rd,.int .i64 rb]] w (WkTo bf tp s t1 Q Lt O D r w))
  (ok:s.Ok) (okt:t1.Ok) (hfew:t1.Few N) (hN:N<1000000000) (hd:d.length=32) (hmet:r.1=0→Met s d r.2.m) (hml:r.1=0→r.2.m.length≤65536) (hG:r.1=0→Goes (partsM s r.2.m) [d] [] [] gf of k) (hw:Lives (Lt++(O++D)) w0) :
  Calls Tryz.prog 25 #[.pointer (some ⟨bf,0,none⟩),.pointer (some ⟨tp,0,none⟩),.agg (u8s d).toArray,.agg #[.int .i64 rn,.int .i64 rd,.int .i64 rb]] w0 fun e w'=>∃L2 O2 D2,e=.returned (.tuple #[.int .i64 ((cpR r s t1 of).1:Nat),.int .i64 (cpR r s t1 of).2.1])∧
   PRep tp (cpR r s t1 of).2.2 (D2++D) L2∧Q (D2++D) O2∧Step (List.map (·.1) (Lt++O)) (L2++(O2++D2)) w0 w':=by
 have hdl:(u8s d).length=32:=by rw[u8s,List.length_map,hd]
 have hs:Step (List.map (·.1) (Lt++(O++D))) (Lt++(O++D)) w0 w0:=hw
 refine calls (n:=67) Tryz.func25 rfl rfl rfl ?_
 refine sr<|WL.box (cs:=u8s d) rfl rfl rfl hs (fun b6 w hs=>?_)
 refine WL.box (cs:=[.int .i64 rn,.int .i64 rd,.int .i64 rb]) rfl rfl rfl hs (fun b7 w hs=>?_)
 refine wA<|wA<|wZ<|cq<|sr<|wm<|wE rfl (run_call en69 rfl rfl) (hwf (Lives.mk hs.tail.tail)) ?_
 rintro e w ⟨rfl,hq⟩
 refine⟨_,rfl,?_⟩
 replace hs:=hs.callE hq
 refine wm<|wE rfl (run_call en69 rfl rfl) (hwt (Lives.mk hs.tail.tail)) ?_
 rintro e w ⟨rfl,hq⟩
 refine⟨_,rfl,?_⟩
 replace hs:=hs.callE hq
 refine wV (run_bF (run_neq rfl rfl) (by exact fun h=>h rfl))<|wZ<|CW.cond rfl (fun h=>?_) (fun h=>?_)
 ·cases h
 have hcall:∀{w w':World}{Y:List (Nat×Obj)},Step (List.map (·.1) (Lt++(O++D))) (Lt++(O++D)) w0 w→Step (List.map (·.1) (Lt++O)) Y w w'→Step (List.map (·.1) (Lt++(O++D))) (Y++D) w0 w':=fun h h2=>Step.call (L1:=Lt++O) (by rw[List.append_assoc];exact h) h2
 refine ck<|sr<|wm<|wV (run_loadN ty44 rfl hdl hs.a1)<|wV (run_loadN ty30 rfl rfl hs.a0)<|wE rfl (run_call en64 rfl rfl) (hwk (Lives.mk hs.tail.tail)) ?_
 rintro e w ⟨v,L1,O1,D1,M,rfl,hP1,hQ1,hM,hq⟩
 refine⟨_,rfl,?_⟩
 replace hs:=hcall hs.tail.tail hq
 refine wm<|wx rfl rfl<|wx rfl rfl<|wA<|wA<|wZ ?_
 by_cases he:r.1≠0
 ·rw[cpR_bad he]
  refine cq<|sr<|wm<|wV (run_bT (run_neq rfl rfl) (by exact he))<|wZ<|CW.cond rfl (fun h=>?_) (fun h=>?_)
  ·refine sr<|wm<|wA<|wA<|wZ<|CW.ret ?_
   refine fin_ret2 rfl ?_
   exact⟨L1,O1,M++D1,rfl,hP1.mono fun p hp=>by rw[List.append_assoc];exact List.mem_append_right _ hp,hQ hQ1 fun p hp=>by rw[List.append_assoc];exact List.mem_append_right _ hp,Step.fin3 hw hs⟩
  ·cases h
 have he0:r.1=0:=by simpa using he
 have hmet:=hmet he0
 have hml:=hml he0
 have hG:=hG he0
 have ob:=hmet.of_le hG
 obtain⟨hol,hofU⟩:=ob
 have ob:=hM he0
 obtain⟨bm,rfl,hMet⟩:=ob
 rw[cpR_ok he0]
 refine cq<|sr<|wm<|wV (run_bF (run_neq rfl rfl) (by exact he))<|wZ<|CW.cond rfl (fun h=>?_) (fun h=>?_)
 ·cases h
 replace hs:Step (List.map (·.1) (Lt++(O++D))) (L1++(O1++(M++(D1++D)))) w0 w:=by
  have h:=hs
  rwa [List.append_assoc,List.append_assoc,List.append_assoc] at h
 refine ck<|sr<|wA<|wZ<|cq<|sr<|wm<|wE rfl (run_call en70 rfl rfl) (behind_spec hMet (Lives.mk (Step.dropL (L1:=O1) (Step.dropL (L1:=L1) hs))) hmet.len hmet.sub (partsM_len s _) hml hmet.head hG) ?_
 rintro e w ⟨vo,Lo,rfl,hvo,hq⟩
 refine⟨_,rfl,?_⟩
 replace hs:=Step.call0 hs hq
 have ob:=hvo.form
 obtain⟨oa,oc,rfl⟩:=ob
 refine wV (run_lenSl u35 rfl)<|wm<|wZ ?_
 obtain⟨vO,LO,q1,M1,c1,q2,M2,c2,rfl,hO,hB,hPm⟩:=hMet
 have ob:∃G,copyR t1 (of.map fun x=>(x,(s.get x).1)) 0=G:=⟨_,rfl⟩
 obtain⟨G,hGe⟩:=ob
 rw[hGe]
 have ob:∃Z,Lo++(((bm,blk 132 [vO,.map (some q1),.map (some q2)])::(q1,mapObj M1 c1)::(q2,mapObj M2 c2)::LO)++(D1++D))=Z:=⟨_,rfl⟩
 obtain⟨Z,hZ⟩:=ob
 have hDZ:∀p∈D1++D,p∈Z:=fun p hp=>hZ▸List.mem_append_right _ (List.mem_append_right _ hp)
 have hLZ:∀p∈Lo,p∈Z:=fun p hp=>hZ▸List.mem_append_left _ hp
 replace hs:Step (List.map (·.1) (Lt++(O++D))) (O1++(L1++([]++Z))) w0 w:=by
  rw[←hZ]
  exact hs.perm (by classical exact List.perm_iff_count.2 fun x=>by simp only[List.count_append,List.count_cons,List.count_nil];omega)
 have hend:∀{L2 D2:List (Nat×Obj)}{w:World}{t:AS},PRep tp t (D2++Z) L2→Step (List.map (·.1) (Lt++(O++D))) (O1++(L2++(D2++Z))) w0 w→∃L2' O2 D2',PRep tp t (D2'++D) L2'∧Q (D2'++D) O2∧Step (List.map (·.1) (Lt++O)) (L2'++(O2++D2')) w0 w:=fun {L2 D2 w t} hP h=>by
  refine⟨L2,O1,D2++(Lo++(((bm,blk 132 [vO,.map (some q1),.map (some q2)])::(q1,mapObj M1 c1)::(q2,mapObj M2 c2)::LO)++D1)),hP.mono fun p hp=>?_,hQ hQ1 fun p hp=>?_,Step.fin3 hw (h.perm ?_)⟩
  ·rw[←hZ] at hp
   simpa[List.append_assoc] using hp
  ·simp only[List.mem_append] at hp⊢
   rcases hp with hp | hp <;> simp[hp]
  ·rw[←hZ]
   classical exact List.perm_iff_count.2 fun x=>by simp only[List.count_append,List.count_cons,List.count_nil];omega
 refine cB<|CW.loop (fun z f w'=>∃(i n:Nat) (t:AS) (Lc Dc:List (Nat×Obj)),i≤of.length∧z=of.length - i∧n≤i∧t.Ok∧t.Few (N+i)∧copyR t ((of.drop i).map fun x=>(x,(s.get x).1)) n=G∧PRep tp t (Dc++Z) Lc∧Step (List.map (·.1) (Lt++(O++D))) (O1++(Lc++(Dc++Z))) w0 w'∧Holds f [(1,.pointer (some ⟨tp,0,none⟩)),(10,.pointer (some ⟨bm,0,none⟩)),(12,.int .i64 (n:Nat)),(34,.slice oa of.length oc),(35,.int .i64 (of.length:Nat)),(36,.int .i64 (i:Nat))]) (m:=of.length) ?_ ?_
 ·exact⟨0,0,t1,L1,[],Nat.zero_le _,rfl,Nat.le_refl _,okt,hfew,hGe,hP1.mono hDZ,hs,rfl,rfl,rfl,rfl,rfl,rfl,trivial⟩
 clear hs
 rintro z f w ⟨i,n,t,Lc,Dc,hil,rfl,hni,oki,fewi,hGi,hPi,hs,hf⟩
 have ob:=hf.chain
 obtain⟨g,rfl⟩:=ob
 by_cases hlt:i<of.length
 ·have ob:∃x,of[i]?=some x:=⟨_,List.getElem?_eq_getElem hlt⟩
  obtain⟨x,hx⟩:=ob
  have hxU:=hofU x (List.mem_of_getElem? hx)
  have hx32:=hmet.len x hxU
  have hxl:(u8s x).length=32:=by rw[u8s,List.length_map,hx32]
  have hgx:=get_len ok x
  have ob:=hvo.some1 (by omega)
  obtain⟨bu,cu,more,hu1,hu2,hu3⟩:=ob
  cases hu1
  have hbZ:(bu,blk 44 (digsL of++more))∈Z:=hLZ _ (by rw[hu2];exact List.mem_singleton.2 rfl)
  have hxat:At w bu (0+i*32) (u8s x):=digsL_at (fun y hy=>hmet.len y (hofU y hy)) (At.of_blk (hs.has (bu,blk 44 (digsL of++more)) (by simp[hbZ]))).left hx
  have hdrop:of.drop i=x::of.drop (i+1):=by
   rw[List.drop_eq_getElem_cons hlt]
   rw[List.getElem?_eq_getElem hlt] at hx
   rw[Option.some.inj hx]
  rw[hdrop,List.map_cons] at hGi
  have hbv:=hB.val x
  obtain⟨u,hu,hHl⟩:∃u,((findD x M1 0).map (·.2)).getD (.slice none 0 0)=u∧Held (D1++D) u (s.get x).1:=by
   cases hv:valD x M1 with
   | none=>rw[hv] at hbv;exact absurd hxU hbv
   | some u=>
    rw[hv] at hbv
    refine⟨u,?_,hbv.2⟩
    show(valD x M1).getD _=_
    rw[hv];rfl
  have hst1:=fun{w:World} h=>stamp_abs (w0:=w) hPi oki h hx32
  have hroom:Room u:=by
   obtain⟨Lv,hOv,_⟩:=hHl
   exact hOv.room (by decide)
  have hHZ:Held (Dc++Z) u (s.get x).1:=hHl.mono fun p hp=>List.mem_append_right _ (hDZ p hp)
  have hput:=fun{w1:World} (hl:Lives (Lc++(Dc++Z)) w1)=>put_abs (w0:=w1) (y:=(s.get x).1) hPi oki fewi (by omega) hl (hHZ.sl fun p hp=>hl.has p (List.mem_append_right _ hp)) hroom (.inr (Own.outside (A:=[]) (L:=Lc) (D:=Dc++Z) hl hHZ)) (by omega)
  have hk1:∀{b14:Nat}{w:World},Step (List.map (·.1) (Lt++(O++D))) ((b14,blk 44 (u8s x))::(O1++(Lc++(Dc++Z)))) w0 w→Step (List.map (·.1) (Lt++(O++D))) [(b14,blk 44 (u8s x)),(bm,blk 132 [vO,.map (some q1),.map (some q2)]),(q1,mapObj M1 c1)] w0 w:=fun h=>Step.k7 (by rw[←hZ] at h;exact h)
  have hk2:∀{b14:Nat}{w:World}{A B:List (Nat×Obj)},Step (List.map (·.1) (Lt++(O++D))) ((b14,blk 44 (u8s x))::(O1++(A++(B++(Dc++Z))))) w0 w→Step (List.map (·.1) (Lt++(O++D))) [(b14,blk 44 (u8s x)),(bm,blk 132 [vO,.map (some q1),.map (some q2)]),(q1,mapObj M1 c1)] w0 w:=fun h=>Step.k8 (by rw[←hZ] at h;exact h)
  have ob:∃y,(s.get x).1=y:=⟨_,rfl⟩
  obtain⟨y,hye⟩:=ob
  rw[hye] at hGi hgx
  rw[hye] at hput
  have hp32:=put_32 oki y
  have ok2:=oki.put y
  have few2:=fewi.put y
  have hbad:=copyR_bad (t:=t) (d:=x) (b:=y) (l:=(of.drop (i+1)).map fun x=>(x,(s.get x).1)) (n:=n)
  have hsame:=copyR_same (t:=t) (d:=x) (b:=y) (l:=(of.drop (i+1)).map fun x=>(x,(s.get x).1)) (n:=n)
  have hnew:=copyR_new (t:=t) (d:=x) (b:=y) (l:=(of.drop (i+1)).map fun x=>(x,(s.get x).1)) (n:=n)
  have ob:∃pr,t.put y=pr:=⟨_,rfl⟩
  obtain⟨pr,hpr⟩:=ob
  rw[hpr] at hp32 ok2 few2 hbad hsame hnew
  simp only[hpr] at hput
  have hpl:(u8s pr.1).length=32:=by rw[u8s,List.length_map,hp32]
  refine sr<|wV (run_bT (run_lss rfl rfl) (by omega))<|wZ<|cq<|CW.cond rfl (fun h=>?_) (fun h=>?_)
  ·refine ck<|cq<|cB<|sr<|wV (run_ixSlN u35 ty44 rfl rfl (by omega))<|wV (run_loadN ty44 rfl hxl hxat)<|WL.alloc ty44 rfl hs (fun b14 w hs=>?_)
   refine WL.storeAll ty44 rfl rfl ((hxl)) ((Cells1.u8s _)) hs (by rfl) (fun w hs=>?_)
   refine wZ<|sr<|wm<|wV (run_loadN ty44 rfl hxl hs.a0)<|wE rfl (run_call en50 rfl rfl) (hst1 (Lives.mk (Step.dropL (L1:=O1) hs.tail))) ?_
   rintro e w ⟨rfl,hq⟩
   refine⟨_,rfl,?_⟩
   replace hs:=hs.callE hq
   refine wA<|wZ<|cq<|cq<|CW.any (A:=fun w=>Step (List.map (·.1) (Lt++(O++D))) [(b14,blk 44 (u8s x)),(bm,blk 132 [vO,.map (some q1),.map (some q2)]),(q1,mapObj M1 c1)] w0 w) (C:=fun w=>Step (List.map (·.1) (Lt++(O++D))) [(b14,blk 44 (u8s x)),(bm,blk 132 [vO,.map (some q1),.map (some q2)]),(q1,mapObj M1 c1)] w0 w) 1000000 14 mixedP rfl ?_
   replace hs:=hs.drew
   refine aM 0 rfl<|aM 1 rfl<|aV 2 rfl (fun w hs=>run_nilCheck rfl)<|aV 3 rfl (fun w hs=>run_field (o':=1) u132 rfl ty129 rfl rfl rfl)<|aV 4 rfl (fun w hs=>run_load1 ty129 rfl (hs.c1 (v:=.map (some q1)) rfl))<|aV 5 rfl (fun w hs=>run_loadN ty44 rfl hxl hs.a0)<|aV 6 rfl (fun w hs=>run_lookupV u129 (zBytes _) hB.keys hx32 hu rfl rfl (hs.has (q1,mapObj M1 c1) (by simp)))<|AL.two 7 11 (by kernel_rfl) rfl rfl (by exact hk1 hs) (by exact hk1 hs) ?_ ?_
   ·have hl51:=Lives.mk (Step.dropL (L1:=O1) (L2:=Lc++(Dc++Z)) hs.tail)
    refine wE rfl (run_call en36 rfl rfl) (hput hl51) ?_
    rintro e w ⟨L2,D2,rfl,hP2,hq⟩
    refine⟨_,rfl,?_⟩
    replace hs:=Own.put (A:=(b14,blk 44 (u8s x))::O1) (L:=Lc) hs hq
    refine wZ<|⟨rfl,?_⟩
    refine aM 8 rfl<|aV 9 rfl (fun w hs=>run_extract rfl rfl)<|aV 10 rfl (fun w hs=>run_extract rfl rfl)<|AL.one 11 (by kernel_rfl) rfl (by exact hk2 hs) (by exact hk2 hs) ?_
    refine WL.alloc ty44 rfl hs (fun b16 w hs=>?_)
    refine wZ<|⟨rfl,?_⟩
    refine AL.one 12 (by kernel_rfl) rfl (by exact hk2 hs.tail) (by exact hk2 hs.tail) ?_
    refine WL.storeAll ty44 rfl rfl ((hpl)) ((Cells1.u8s _)) hs (by rfl) (fun w hs=>?_)
    refine wZ<|⟨rfl,?_⟩
    refine aV 13 rfl (fun w hs=>run_assign)<|AL.end (by kernel_rfl) (by exact hk2 hs.tail) (by exact hk2 hs.tail) ?_
    replace hs:=hs.tail
    by_cases hpe:pr.2.1≠0
    ·rw[hbad hpe] at hGi
     refine sr<|wm<|wV (run_bT (run_neq rfl rfl) (by exact fun h=>hpe (Int.ofNat.inj h)))<|wZ<|CW.cond rfl (fun h=>?_) (fun h=>?_)
     ·refine sr<|wm<|wm<|wA<|wA<|wZ<|CW.ret ?_
      refine fin_ret2 rfl ?_
      have ob:=hend (D2:=D2++Dc) (by rw[List.append_assoc];exact hP2) (by rw[List.append_assoc];exact hs.tail)
      obtain⟨L3,O3,D3,h1,h2,h3⟩:=ob
      rw[←hGi]
      exact⟨L3,O3,D3,rfl,h1,h2,h3⟩
     ·cases h
    have hp0:pr.2.1=0:=by simpa using hpe
    have hst2:=fun{w:World} h=>stamp_abs (w0:=w) hP2 ok2 h hx32
    refine sr<|wm<|wV (run_bF (run_neq rfl rfl) (by exact fun h=>h (congrArg Int.ofNat hp0)))<|wZ<|CW.cond rfl (fun h=>?_) (fun h=>?_)
    ·cases h
    by_cases hse:pr.2.2.stamp x=t.stamp x
    ·rw[hsame hp0 hse] at hGi
     refine ck<|sr<|wm<|wV (run_loadN ty44 rfl hxl hs.a0)<|wE rfl (run_call en50 rfl rfl) (hst2 (Lives.mk (Step.dropL (L1:=O1) hs.tail))) ?_
     rintro e w ⟨rfl,hq⟩
     refine⟨_,rfl,?_⟩
     replace hs:=hs.callE hq
     refine wm<|wV (run_bF (run_neq rfl rfl) (by exact fun h=>h (congrArg Int.ofNat hse)))<|wZ<|CW.cond rfl (fun h=>?_) (fun h=>?_)
     ·cases h
     replace hs:=hs.tail
     refine ck<|cr<|wV (run_add (c:=((i+1:Nat):Int)) rfl rfl (by omega) (by omega))<|wm<|wZ<|(show _∧_ from⟨rfl,_,?_,i+1,n,pr.2.2,L2,D2++Dc,hlt,rfl,?_,ok2,few2,hGi,?_,?_,rfl,rfl,rfl,rfl,rfl,rfl,trivial⟩)
     ·omega
     ·omega
     ·rw[List.append_assoc];exact hP2
     ·rw[List.append_assoc];exact hs
    ·rw[hnew hp0 hse] at hGi
     refine ck<|sr<|wm<|wV (run_loadN ty44 rfl hxl hs.a0)<|wE rfl (run_call en50 rfl rfl) (hst2 (Lives.mk (Step.dropL (L1:=O1) hs.tail))) ?_
     rintro e w ⟨rfl,hq⟩
     refine⟨_,rfl,?_⟩
     replace hs:=hs.callE hq
     refine wm<|wV (run_bT (run_neq rfl rfl) (by exact fun h=>hse (Int.ofNat.inj h)))<|wZ<|CW.cond rfl (fun h=>?_) (fun h=>?_)
     ·replace hs:=hs.tail
      refine cr<|wm<|wV (run_add (c:=((n+1:Nat):Int)) rfl rfl (by omega) (by omega))<|wA<|wZ<|cr<|wV (run_add (c:=((i+1:Nat):Int)) rfl rfl (by omega) (by omega))<|wm<|wZ<|(show _∧_ from⟨rfl,_,?_,i+1,n+1,pr.2.2,L2,D2++Dc,hlt,rfl,?_,ok2,few2,hGi,?_,?_,rfl,rfl,rfl,rfl,rfl,rfl,trivial⟩)
      ·omega
      ·omega
      ·rw[List.append_assoc];exact hP2
      ·rw[List.append_assoc];exact hs
     ·cases h
   ·refine WL.alloc ty44 rfl hs (fun b16 w hs=>?_)
    refine wZ<|⟨rfl,?_⟩
    refine AL.one 7 (by kernel_rfl) rfl (by exact hk1 hs.tail) (by exact hk1 hs.tail) ?_
    have hl51:=Lives.mk (Step.dropL (L1:=O1) (L2:=Lc++(Dc++Z)) hs.tail.tail)
    refine wE rfl (run_call en36 rfl rfl) (hput hl51) ?_
    rintro e w ⟨L2,D2,rfl,hP2,hq⟩
    refine⟨_,rfl,?_⟩
    replace hs:=Own.put (A:=_::(b14,blk 44 (u8s x))::O1) (L:=Lc) hs hq
    refine wZ<|⟨rfl,?_⟩
    refine aM 8 rfl<|aV 9 rfl (fun w hs=>run_extract rfl rfl)<|aV 10 rfl (fun w hs=>run_extract rfl rfl)<|AL.one 12 (by kernel_rfl) rfl (by exact hk2 hs.tail) (by exact hk2 hs.tail) ?_
    refine WL.storeAll ty44 rfl rfl ((hpl)) ((Cells1.u8s _)) hs (by rfl) (fun w hs=>?_)
    refine wZ<|⟨rfl,?_⟩
    refine aV 13 rfl (fun w hs=>run_assign)<|AL.end (by kernel_rfl) (by exact hk2 hs.tail) (by exact hk2 hs.tail) ?_
    replace hs:=hs.tail
    by_cases hpe:pr.2.1≠0
    ·rw[hbad hpe] at hGi
     refine sr<|wm<|wV (run_bT (run_neq rfl rfl) (by exact fun h=>hpe (Int.ofNat.inj h)))<|wZ<|CW.cond rfl (fun h=>?_) (fun h=>?_)
     ·refine sr<|wm<|wm<|wA<|wA<|wZ<|CW.ret ?_
      refine fin_ret2 rfl ?_
      have ob:=hend (D2:=D2++Dc) (by rw[List.append_assoc];exact hP2) (by rw[List.append_assoc];exact hs.tail)
      obtain⟨L3,O3,D3,h1,h2,h3⟩:=ob
      rw[←hGi]
      exact⟨L3,O3,D3,rfl,h1,h2,h3⟩
     ·cases h
    have hp0:pr.2.1=0:=by simpa using hpe
    have hst2:=fun{w:World} h=>stamp_abs (w0:=w) hP2 ok2 h hx32
    refine sr<|wm<|wV (run_bF (run_neq rfl rfl) (by exact fun h=>h (congrArg Int.ofNat hp0)))<|wZ<|CW.cond rfl (fun h=>?_) (fun h=>?_)
    ·cases h
    by_cases hse:pr.2.2.stamp x=t.stamp x
    ·rw[hsame hp0 hse] at hGi
     refine ck<|sr<|wm<|wV (run_loadN ty44 rfl hxl hs.a0)<|wE rfl (run_call en50 rfl rfl) (hst2 (Lives.mk (Step.dropL (L1:=O1) hs.tail))) ?_
     rintro e w ⟨rfl,hq⟩
     refine⟨_,rfl,?_⟩
     replace hs:=hs.callE hq
     refine wm<|wV (run_bF (run_neq rfl rfl) (by exact fun h=>h (congrArg Int.ofNat hse)))<|wZ<|CW.cond rfl (fun h=>?_) (fun h=>?_)
     ·cases h
     replace hs:=hs.tail
     refine ck<|cr<|wV (run_add (c:=((i+1:Nat):Int)) rfl rfl (by omega) (by omega))<|wm<|wZ<|(show _∧_ from⟨rfl,_,?_,i+1,n,pr.2.2,L2,D2++Dc,hlt,rfl,?_,ok2,few2,hGi,?_,?_,rfl,rfl,rfl,rfl,rfl,rfl,trivial⟩)
     ·omega
     ·omega
     ·rw[List.append_assoc];exact hP2
     ·rw[List.append_assoc];exact hs
    ·rw[hnew hp0 hse] at hGi
     refine ck<|sr<|wm<|wV (run_loadN ty44 rfl hxl hs.a0)<|wE rfl (run_call en50 rfl rfl) (hst2 (Lives.mk (Step.dropL (L1:=O1) hs.tail))) ?_
     rintro e w ⟨rfl,hq⟩
     refine⟨_,rfl,?_⟩
     replace hs:=hs.callE hq
     refine wm<|wV (run_bT (run_neq rfl rfl) (by exact fun h=>hse (Int.ofNat.inj h)))<|wZ<|CW.cond rfl (fun h=>?_) (fun h=>?_)
     ·replace hs:=hs.tail
      refine cr<|wm<|wV (run_add (c:=((n+1:Nat):Int)) rfl rfl (by omega) (by omega))<|wA<|wZ<|cr<|wV (run_add (c:=((i+1:Nat):Int)) rfl rfl (by omega) (by omega))<|wm<|wZ<|(show _∧_ from⟨rfl,_,?_,i+1,n+1,pr.2.2,L2,D2++Dc,hlt,rfl,?_,ok2,few2,hGi,?_,?_,rfl,rfl,rfl,rfl,rfl,rfl,trivial⟩)
      ·omega
      ·omega
      ·rw[List.append_assoc];exact hP2
      ·rw[List.append_assoc];exact hs
     ·cases h
  ·cases h
 ·obtain rfl:i=of.length:=by omega
  rw[List.drop_length] at hGi
  obtain rfl:(n,0,t)=G:=hGi
  have ob:=hend hPi hs
  obtain⟨L2,O2,D2,h1,h2,h3⟩:=ob
  refine sr<|wV (run_bF (run_lss rfl rfl) (by omega))<|wZ<|cq<|CW.cond rfl (fun h=>?_) (fun h=>?_)
  ·cases h
  refine CW.exit<|sr<|wm<|wA<|wA<|wZ<|CW.ret ?_
  refine fin_ret2 rfl ?_
  exact⟨L2,O2,D2,rfl,h1,h2,h3⟩
end
section
variable{br:Nat}{s:AS}{D R:List (Nat×Obj)}{d:List UInt8}{w0:World}
theorem rstamp_abs (hT:RRep br s D R) (ok:s.Ok) (hw:Lives (R++D) w0) (hd:d.length=32):Calls Tryz.prog 73 #[.pointer (some ⟨br,0,none⟩),.agg (u8s d).toArray] w0 (Ret0 (.int .i64 (s.stamp d:Nat)) w0):=by
 have ob:=hT.open ok hw
 obtain⟨a,c,Lv,T,o⟩:=ob
 exact rstamp_spec o ok hd
end
section
variable{bf tp:Nat}{s t1:AS}{I:AS→Prop}{Q:List (Nat×Obj)→List (Nat×Obj)→Prop}{Rt O D:List (Nat×Obj)}{d:List UInt8}{r:Int×WS}{rn rd rb:Int}{N k kw:Nat}{gf of:List (List UInt8)}{w0:World}
def WkToR (bf tp:Nat) (t1:AS) (Q:List (Nat×Obj)→List (Nat×Obj)→Prop) (Rt O D:List (Nat×Obj)) (r:Int×WS) (w:World) (e:Ending) (w':World):Prop:=
 ∃v R1 O1 D1 Lv,e=.returned (.tuple #[v,.int .i64 r.1])∧RRep tp t1 (D1++D) R1∧Q (D1++D) O1∧(r.1=0→OwnSl 137 33 v r.2.m.length (rowsSt r.2.m) Lv)∧Step (List.map (·.1) (Rt++O)) (R1++(O1++(Lv++D1))) w w'
set_option maxHeartbeats 8000000 in
theorem copyDR_spec (hQ:∀{D1 D2 O1:List (Nat×Obj)},Q D1 O1→(∀p∈D1,p∈D2)→Q D2 O1)
  (hwf:∀{w:World},Lives (Rt++(O++D)) w→At w bf 0 [.int .i64 (kw:Nat)])
  (hwt:∀{w:World},Lives (Rt++(O++D)) w→At w tp 0 [.int .i64 (kw:Nat)])
  (hwk:∀{w:World},Lives (Rt++(O++D)) w→Calls Tryz.prog 65 #[.pointer (some ⟨bf,0,none⟩),.agg (u8s d).toArray,.agg #[.int .i64 rn,.int .i64 rd,.int .i64 rb]] w (WkToR bf tp t1 Q Rt O D r w))
  (hbe:r.1=0→∀{v:Value}{D1 O1 R1 Lv:List (Nat×Obj)}{w:World},RRep tp t1 D1 R1→Q D1 O1→OwnSl 137 33 v r.2.m.length (rowsSt r.2.m) Lv→(∀p∈Lv,p∈D1)→Lives (O1++(R1++D1)) w→Calls Tryz.prog 71 #[.pointer (some ⟨bf,0,none⟩),v] w fun e w'=>∃v Lv,e=.returned v∧OwnSl 44 32 v of.length (digsL of) Lv∧Step [] Lv w w')
  (hraw:r.1=0→∀{x:List UInt8}{t:AS}{D1 O1 R1:List (Nat×Obj)}{w:World},x∈of→I t→RRep tp t D1 R1→Q D1 O1→Lives (O1++(R1++D1)) w→Calls Tryz.prog 72 #[.pointer (some ⟨bf,0,none⟩),.agg (u8s x).toArray] w fun e w'=>∃v b Lv,e=.returned (.tuple #[v,.bool b])∧OwnSl 5 1 v (s.get x).1.length (u8s (s.get x).1) Lv∧Step [] Lv w w')
  (hI:r.1=0→I t1) (hIp:r.1=0→∀{t:AS}{x:List UInt8},x∈of→I t→(t.put (s.get x).1).2.1=0→I (t.put (s.get x).1).2.2)
  (ok:s.Ok) (okt:t1.Ok) (hfew:t1.Few N) (hN:N<1000000000) (hd:d.length=32) (h32:r.1=0→∀x∈of,x.length=32) (hol:r.1=0→of.length≤65536) (hw:Lives (Rt++(O++D)) w0) :
  Calls Tryz.prog 26 #[.pointer (some ⟨bf,0,none⟩),.pointer (some ⟨tp,0,none⟩),.agg (u8s d).toArray,.agg #[.int .i64 rn,.int .i64 rd,.int .i64 rb]] w0 fun e w'=>∃R2 O2 D2,e=.returned (.tuple #[.int .i64 ((cpR r s t1 of).1:Nat),.int .i64 (cpR r s t1 of).2.1])∧
   RRep tp (cpR r s t1 of).2.2 (D2++D) R2∧Q (D2++D) O2∧Step (List.map (·.1) (Rt++O)) (R2++(O2++D2)) w0 w':=by
 have hdl:(u8s d).length=32:=by rw[u8s,List.length_map,hd]
 have hs:Step (List.map (·.1) (Rt++(O++D))) (Rt++(O++D)) w0 w0:=hw
 have hcall:∀{w w':World}{Y:List (Nat×Obj)},Step (List.map (·.1) (Rt++(O++D))) (Rt++(O++D)) w0 w→Step (List.map (·.1) (Rt++O)) Y w w'→Step (List.map (·.1) (Rt++(O++D))) (Y++D) w0 w':=fun h h2=>Step.call (L1:=Rt++O) (by rw[List.append_assoc];exact h) h2
 refine calls (n:=84) Tryz.func26 rfl rfl rfl ?_
 refine sr<|WL.box (cs:=u8s d) rfl rfl rfl hs (fun b6 w hs=>?_)
 refine WL.box (cs:=[.int .i64 rn,.int .i64 rd,.int .i64 rb]) rfl rfl rfl hs (fun b7 w hs=>?_)
 refine wA<|wA<|wZ<|cq<|cq<|CW.quiet mixedP (by kernel_rfl) hs ?_
 refine qm<|qn rfl<|qF 0 u54 rfl ty3 rfl<|qV (fun w hs=>run_load1 ty3 rfl ((hwf (Lives.mk hs.tail.tail)).cell (j:=0) rfl))<|qm<|qn rfl<|qF 0 u54 rfl ty3 rfl<|qV (fun w hs=>run_load1 ty3 rfl ((hwt (Lives.mk hs.tail.tail)).cell (j:=0) rfl))<|qV (fun w hs=>run_bF (run_neq rfl rfl) (by exact fun h=>h rfl))<|QL.nil (fun w hs=>?_)
 refine CW.cond rfl (fun h=>?_) (fun h=>?_)
 ·cases h
 refine ck<|sr<|wm<|wV (run_loadN ty44 rfl hdl hs.a1)<|wV (run_loadN ty30 rfl rfl hs.a0)<|wE rfl (run_call en65 rfl rfl) (hwk (Lives.mk hs.tail.tail)) ?_
 rintro e w ⟨v,R1,O1,D1,Lv,rfl,hR1,hQ1,hM,hq⟩
 refine⟨_,rfl,?_⟩
 replace hs:=hcall hs.tail.tail hq
 refine wm<|wx rfl rfl<|wx rfl rfl<|wA<|wA<|wZ ?_
 by_cases he:r.1≠0
 ·rw[cpR_bad he]
  refine cq<|sr<|wm<|wV (run_bT (run_neq rfl rfl) (by exact he))<|wZ<|CW.cond rfl (fun h=>?_) (fun h=>?_)
  ·refine sr<|wm<|wA<|wA<|wZ<|CW.ret ?_
   refine fin_ret2 rfl ?_
   exact⟨R1,O1,Lv++D1,rfl,hR1.mono fun p hp=>by rw[List.append_assoc];exact List.mem_append_right _ hp,hQ hQ1 fun p hp=>by rw[List.append_assoc];exact List.mem_append_right _ hp,Step.fin3 hw hs⟩
  ·cases h
 have he0:r.1=0:=by simpa using he
 have h32:=h32 he0
 have hol:=hol he0
 have hM:=hM he0
 have hbe:=fun{v:Value}{D1 O1 R1 Lv:List (Nat×Obj)}{w:World}=>hbe he0 (v:=v) (D1:=D1) (O1:=O1) (R1:=R1) (Lv:=Lv) (w:=w)
 have hraw:=fun{x:List UInt8}{t:AS}{D1 O1 R1:List (Nat×Obj)}{w:World}=>hraw he0 (x:=x) (t:=t) (D1:=D1) (O1:=O1) (R1:=R1) (w:=w)
 have hI:=hI he0
 have hIp:=fun{t:AS}{x:List UInt8}=>hIp he0 (t:=t) (x:=x)
 rw[cpR_ok he0]
 refine cq<|sr<|wm<|wV (run_bF (run_neq rfl rfl) (by exact he))<|wZ<|CW.cond rfl (fun h=>?_) (fun h=>?_)
 ·cases h
 replace hs:Step (List.map (·.1) (Rt++(O++D))) (O1++(R1++(Lv++(D1++D)))) w0 w:=by
  have h:=hs
  rw[List.append_assoc,List.append_assoc,List.append_assoc] at h
  exact h.perm (by classical exact List.perm_iff_count.2 fun x=>by simp only[List.count_append];omega)
 have ob:=hM.form
 obtain⟨va,vc,rfl⟩:=ob
 refine ck<|sr<|wA<|wZ<|sr<|wm<|wm<|wE rfl (run_call en71 rfl rfl) (hbe (hR1.mono mem_right) (hQ hQ1 mem_right) hM (fun p hp=>List.mem_append_left _ hp) (Lives.mk hs)) ?_
 rintro e w ⟨vo,Lo,rfl,hvo,hq⟩
 refine⟨_,rfl,?_⟩
 replace hs:=Step.call0 hs hq
 refine wA<|wZ ?_
 have ob:=hvo.form
 obtain⟨oa,oc,rfl⟩:=ob
 have ob:∃G,copyR t1 (of.map fun x=>(x,(s.get x).1)) 0=G:=⟨_,rfl⟩
 obtain⟨G,hGe⟩:=ob
 rw[hGe]
 have ob:∃Z,Lo++(Lv++(D1++D))=Z:=⟨_,rfl⟩
 obtain⟨Z,hZ⟩:=ob
 have hDZ:∀p∈D1++D,p∈Z:=fun p hp=>hZ▸List.mem_append_right _ (List.mem_append_right _ hp)
 have hLZ:∀p∈Lo,p∈Z:=fun p hp=>hZ▸List.mem_append_left _ hp
 replace hs:Step (List.map (·.1) (Rt++(O++D))) (O1++(R1++([]++Z))) w0 w:=by
  rw[←hZ]
  exact hs.perm (by classical exact List.perm_iff_count.2 fun x=>by simp only[List.count_append,List.count_nil];omega)
 have hend:∀{R2 D2:List (Nat×Obj)}{w:World}{t:AS},RRep tp t (D2++Z) R2→Step (List.map (·.1) (Rt++(O++D))) (O1++(R2++(D2++Z))) w0 w→∃R2' O2 D2',RRep tp t (D2'++D) R2'∧Q (D2'++D) O2∧Step (List.map (·.1) (Rt++O)) (R2'++(O2++D2')) w0 w:=fun {R2 D2 w t} hP h=>by
  refine⟨R2,O1,D2++(Lo++(Lv++D1)),hP.mono fun p hp=>?_,hQ hQ1 fun p hp=>?_,Step.fin3 hw (h.perm ?_)⟩
  ·rw[←hZ] at hp
   simpa[List.append_assoc] using hp
  ·simp only[List.mem_append] at hp⊢
   rcases hp with hp | hp <;> simp[hp]
  ·rw[←hZ]
   classical exact List.perm_iff_count.2 fun x=>by simp only[List.count_append];omega
 refine cq<|sr<|wA<|wZ<|cB<|CW.loop (fun z f w'=>∃(i n:Nat) (t:AS) (Rc Dc:List (Nat×Obj)),i≤of.length∧z=of.length - i∧n≤i∧t.Ok∧t.Few (N+i)∧I t∧copyR t ((of.drop i).map fun x=>(x,(s.get x).1)) n=G∧RRep tp t (Dc++Z) Rc∧Step (List.map (·.1) (Rt++(O++D))) (O1++(Rc++(Dc++Z))) w0 w'∧Holds f [(0,.pointer (some ⟨bf,0,none⟩)),(1,.pointer (some ⟨tp,0,none⟩)),(12,.int .i64 (n:Nat)),(13,.slice oa of.length oc),(14,.int .i64 (i:Nat))]) (m:=of.length) ?_ ?_
 ·exact⟨0,0,t1,R1,[],Nat.zero_le _,rfl,Nat.le_refl _,okt,hfew,hI,hGe,hR1.mono hDZ,hs,rfl,rfl,rfl,rfl,rfl,trivial⟩
 clear hs
 rintro z f w ⟨i,n,t,Rc,Dc,hil,rfl,hni,oki,fewi,hIi,hGi,hPi,hs,hf⟩
 have ob:=hf.chain
 obtain⟨g,rfl⟩:=ob
 by_cases hlt:i<of.length
 ·have ob:∃x,of[i]?=some x:=⟨_,List.getElem?_eq_getElem hlt⟩
  obtain⟨x,hx⟩:=ob
  have hxo:=List.mem_of_getElem? hx
  have hx32:=h32 x hxo
  have hxl:(u8s x).length=32:=by rw[u8s,List.length_map,hx32]
  have hgx:=get_len ok x
  have ob:=hvo.some1 (by omega)
  obtain⟨bu,cu,more,hu1,hu2,hu3⟩:=ob
  cases hu1
  have hbZ:(bu,blk 44 (digsL of++more))∈Z:=hLZ _ (by rw[hu2];exact List.mem_singleton.2 rfl)
  have hxat:∀{L:List (Nat×Obj)}{w:World},Step (List.map (·.1) (Rt++(O++D))) L w0 w→(∀p∈Z,p∈L)→At w bu (0+i*32) (u8s x):=fun h hm=>digsL_at h32 (At.of_blk (h.has (bu,blk 44 (digsL of++more)) (hm _ hbZ))).left hx
  have hdrop:of.drop i=x::of.drop (i+1):=by
   rw[List.drop_eq_getElem_cons hlt]
   rw[List.getElem?_eq_getElem hlt] at hx
   rw[Option.some.inj hx]
  rw[hdrop,List.map_cons] at hGi
  have hrw:=fun{w1:World} h=>hraw (w:=w1) hxo hIi hPi (hQ hQ1 fun p hp=>List.mem_append_right Dc (hDZ p hp)) h
  have hIp2:=hIp hxo hIi
  have ob:∃y,(s.get x).1=y:=⟨_,rfl⟩
  obtain⟨y,hye⟩:=ob
  rw[hye] at hGi hgx hrw hIp2
  have hst1:=fun{w:World}{D2:List (Nat×Obj)} h=>rstamp_abs (w0:=w) (hPi.mono (D':=D2++(Dc++Z)) mem_right) oki h hx32
  have hput:=fun{w1:World}{D2:List (Nat×Obj)}{u:Value} (hH:Held D2 u y) (hl:Lives (Rc++(D2++(Dc++Z))) w1)=>rput_abs (w0:=w1) (y:=y) (hPi.mono (D':=D2++(Dc++Z)) mem_right) oki fewi (by omega) hl (hH.sl fun p hp=>hl.has p (List.mem_append_right _ (List.mem_append_left _ hp))) (.inr (Own.outside (A:=[]) (L:=Rc) (D:=D2++(Dc++Z)) hl (hH.mono fun p hp=>List.mem_append_left _ hp))) (by omega)
  have hp32:=put_32 oki y
  have ok2:=oki.put y
  have few2:=fewi.put y
  have hbad:=copyR_bad (t:=t) (d:=x) (b:=y) (l:=(of.drop (i+1)).map fun x=>(x,(s.get x).1)) (n:=n)
  have hsame:=copyR_same (t:=t) (d:=x) (b:=y) (l:=(of.drop (i+1)).map fun x=>(x,(s.get x).1)) (n:=n)
  have hnew:=copyR_new (t:=t) (d:=x) (b:=y) (l:=(of.drop (i+1)).map fun x=>(x,(s.get x).1)) (n:=n)
  have ob:∃pr,t.put y=pr:=⟨_,rfl⟩
  obtain⟨pr,hpr⟩:=ob
  rw[hpr] at hp32 ok2 few2 hbad hsame hnew hIp2
  simp only[hpr] at hput
  have hpl:(u8s pr.1).length=32:=by rw[u8s,List.length_map,hp32]
  refine cq<|sr<|wm<|wm<|wV (run_lenSl u35 rfl)<|wV (run_bT (run_lss rfl rfl) (by omega))<|wZ<|CW.cond rfl (fun h=>?_) (fun h=>?_)
  ·refine ck<|cq<|cB<|sr<|wm<|wm<|wm<|wV (run_ixSlN u35 ty44 rfl rfl (by omega))<|wV (run_loadN ty44 rfl hxl (hxat hs (fun p hp=>by simp[hp])))<|wE rfl (run_call en72 rfl rfl) (hrw (Lives.mk hs)) ?_
   rintro e w ⟨u,bb,Lu,rfl,hu,hq⟩
   refine⟨_,rfl,?_⟩
   replace hs:=Own.intoD (A:=O1) (L:=Rc) (Step.call0 hs hq)
   refine wm<|wx rfl rfl<|wx rfl rfl<|wA<|wA<|wZ<|sr<|wm<|wm<|wm<|wV (run_ixSlN u35 ty44 rfl rfl (by omega))<|wV (run_loadN ty44 rfl hxl (hxat hs (fun p hp=>by simp[hp])))<|wE rfl (run_call en73 rfl rfl) (hst1 (Lives.mk (Step.dropL (L1:=O1) hs))) ?_
   rintro e w ⟨rfl,hq⟩
   refine⟨_,rfl,?_⟩
   replace hs:=hs.callE hq
   refine wA<|wZ<|sr<|wm<|wm<|wE rfl (run_call en74 rfl rfl) (hput (D2:=Lu) ⟨Lu,hu,fun p hp=>hp⟩ (Lives.mk (Step.dropL (L1:=O1) hs))) ?_
   rintro e w ⟨R2,D2,rfl,hP2,hq⟩
   refine⟨_,rfl,?_⟩
   replace hs:=Own.put (A:=O1) (L:=Rc) hs hq
   refine wm<|wx rfl rfl<|wx rfl rfl<|WL.alloc ty44 rfl hs (fun b18 w hs=>?_)
   refine WL.storeAll ty44 rfl rfl ((hpl)) ((Cells1.u8s _)) hs (by rfl) (fun w hs=>?_)
   refine wA<|wZ ?_
   replace hs:=hs.tail
   by_cases hpe:pr.2.1≠0
   ·rw[hbad hpe] at hGi
    refine cq<|sr<|wm<|wV (run_bT (run_neq rfl rfl) (by exact fun h=>hpe (Int.ofNat.inj h)))<|wZ<|CW.cond rfl (fun h=>?_) (fun h=>?_)
    ·refine sr<|wm<|wm<|wA<|wA<|wZ<|CW.ret ?_
     refine fin_ret2 rfl ?_
     have ob:=hend (D2:=D2++(Lu++Dc)) (by rw[List.append_assoc,List.append_assoc];exact hP2) (by rw[List.append_assoc,List.append_assoc];exact hs)
     obtain⟨L3,O3,D3,h1,h2,h3⟩:=ob
     rw[←hGi]
     exact⟨L3,O3,D3,rfl,h1,h2,h3⟩
    ·cases h
   have hp0:pr.2.1=0:=by simpa using hpe
   have hst2:=fun{w:World} h=>rstamp_abs (w0:=w) hP2 ok2 h hx32
   refine cq<|sr<|wm<|wV (run_bF (run_neq rfl rfl) (by exact fun h=>h (congrArg Int.ofNat hp0)))<|wZ<|CW.cond rfl (fun h=>?_) (fun h=>?_)
   ·cases h
   by_cases hse:pr.2.2.stamp x=t.stamp x
   ·rw[hsame hp0 hse] at hGi
    refine ck<|sr<|wm<|wm<|wm<|wV (run_ixSlN u35 ty44 rfl rfl (by omega))<|wV (run_loadN ty44 rfl hxl (hxat hs (fun p hp=>by simp[hp])))<|wE rfl (run_call en73 rfl rfl) (hst2 (Lives.mk (Step.dropL (L1:=O1) hs))) ?_
    rintro e w ⟨rfl,hq⟩
    refine⟨_,rfl,?_⟩
    replace hs:=hs.callE hq
    refine wm<|wV (run_bF (run_neq rfl rfl) (by exact fun h=>h (congrArg Int.ofNat hse)))<|wZ<|CW.cond rfl (fun h=>?_) (fun h=>?_)
    ·cases h
    refine ck<|cr<|wm<|wV (run_add (c:=((i+1:Nat):Int)) rfl rfl (by omega) (by omega))<|wA<|wZ<|(show _∧_ from⟨rfl,_,?_,i+1,n,pr.2.2,R2,D2++(Lu++Dc),hlt,rfl,?_,ok2,few2,hIp2 hp0,hGi,?_,?_,rfl,rfl,rfl,rfl,rfl,trivial⟩)
    ·omega
    ·omega
    ·rw[List.append_assoc,List.append_assoc];exact hP2
    ·rw[List.append_assoc,List.append_assoc];exact hs
   ·rw[hnew hp0 hse] at hGi
    refine ck<|sr<|wm<|wm<|wm<|wV (run_ixSlN u35 ty44 rfl rfl (by omega))<|wV (run_loadN ty44 rfl hxl (hxat hs (fun p hp=>by simp[hp])))<|wE rfl (run_call en73 rfl rfl) (hst2 (Lives.mk (Step.dropL (L1:=O1) hs))) ?_
    rintro e w ⟨rfl,hq⟩
    refine⟨_,rfl,?_⟩
    replace hs:=hs.callE hq
    refine wm<|wV (run_bT (run_neq rfl rfl) (by exact fun h=>hse (Int.ofNat.inj h)))<|wZ<|CW.cond rfl (fun h=>?_) (fun h=>?_)
    ·skip
     refine cr<|wm<|wV (run_add (c:=((n+1:Nat):Int)) rfl rfl (by omega) (by omega))<|wA<|wZ<|cr<|wm<|wV (run_add (c:=((i+1:Nat):Int)) rfl rfl (by omega) (by omega))<|wA<|wZ<|(show _∧_ from⟨rfl,_,?_,i+1,n+1,pr.2.2,R2,D2++(Lu++Dc),hlt,rfl,?_,ok2,few2,hIp2 hp0,hGi,?_,?_,rfl,rfl,rfl,rfl,rfl,trivial⟩)
     ·omega
     ·omega
     ·rw[List.append_assoc,List.append_assoc];exact hP2
     ·rw[List.append_assoc,List.append_assoc];exact hs
    ·cases h
  ·cases h
 ·obtain rfl:i=of.length:=by omega
  rw[List.drop_length] at hGi
  obtain rfl:(n,0,t)=G:=hGi
  have ob:=hend hPi hs
  obtain⟨L2,O2,D2,h1,h2,h3⟩:=ob
  refine cq<|sr<|wm<|wm<|wV (run_lenSl u35 rfl)<|wV (run_bF (run_lss rfl rfl) (by omega))<|wZ<|CW.cond rfl (fun h=>?_) (fun h=>?_)
  ·cases h
  refine CW.exit<|sr<|wm<|wA<|wA<|wZ<|CW.ret ?_
  refine fin_ret2 rfl ?_
  exact⟨L2,O2,D2,rfl,h1,h2,h3⟩
end
theorem copyR_ok:∀{l:List (List UInt8×List UInt8)}{t:AS}{n:Nat},t.Ok→(copyR t l n).2.2.Ok
 | [],_,_,h=>h
 | (d,b)::l,t,n,h=>by
  by_cases hp:(t.put b).2.1=0
  ·by_cases h2:(t.put b).2.2.stamp d=t.stamp d
   ·rw[copyR_same hp h2];exact copyR_ok (h.put b)
   ·rw[copyR_new hp h2];exact copyR_ok (h.put b)
  ·rw[copyR_bad hp];exact h.put b
theorem copyR_few:∀{l:List (List UInt8×List UInt8)}{t:AS}{n N:Nat},t.Few N→(copyR t l n).2.2.Few (N+l.length)
 | [],_,_,_,h=>h
 | (d,b)::l,t,n,N,h=>by
  have e:N+((d,b)::l).length=(N+1)+l.length:=by rw[List.length_cons];omega
  rw[e]
  by_cases hp:(t.put b).2.1=0
  ·by_cases h2:(t.put b).2.2.stamp d=t.stamp d
   ·rw[copyR_same hp h2];exact copyR_few (h.put b)
   ·rw[copyR_new hp h2];exact copyR_few (h.put b)
  ·rw[copyR_bad hp];exact(h.put b).mono (by omega)
theorem cpR_ok' {r:Int×WS}{s t:AS}{of:List (List UInt8)} (h:t.Ok):(cpR r s t of).2.2.Ok:=by
 unfold cpR
 split
 ·exact h
 ·exact copyR_ok h
theorem cpR_few{r:Int×WS}{s t:AS}{of:List (List UInt8)}{N:Nat} (h:t.Few N):(cpR r s t of).2.2.Few (N+of.length):=by
 unfold cpR
 split
 ·exact h.mono (by omega)
 ·have h2:=copyR_few (l:=of.map fun x=>(x,(s.get x).1)) (n:=0) h
  rwa [List.length_map] at h2
section
variable{bp br tp tr:Nat}{s t:AS}{D L Lt R Rt:List (Nat×Obj)}{d:List UInt8}{rn rd rb:Int}{N k:Nat}{gf of:List (List UInt8)}{w0:World}
structure Wkd (s:AS) (d:List UInt8) (r:Int×WS) (gf of:List (List UInt8)) (k:Nat):Prop where
 met:r.1=0→Met s d r.2.m
 len:r.1=0→r.2.m.length≤65536
 m32:r.1=0→∀p∈r.2.m,p.1.length=32
 go:r.1=0→Goes (partsM s r.2.m) [d] [] [] gf of k
theorem runs_wkd (hd:d.length=32) (hrm:(rmOf rn rd rb).Ok):∃gf of k,Wkd s d (runs s (rmOf rn rd rb) [rootS d] ws0) gf of k∧of.length≤65536:=by
 have hmet:=fun{t:WS} h=>runs_met (s:=s) (rm:=rmOf rn rd rb) (t:=t) hd h
 have hgd:=standP_good (s:=s) (rm:=rmOf rn rd rb) hrm 34 (x:=rootS d) (t:=ws0) (ws0_good.mono (by omega))
 have hM32:=root_M32 (s:=s) (rm:=rmOf rn rd rb) hd
 rw[←runs_root] at hgd hM32
 have ob:∃r,runs s (rmOf rn rd rb) [rootS d] ws0=r:=⟨_,rfl⟩
 obtain⟨r,hr⟩:=ob
 rw[hr] at hmet hgd hM32⊢
 by_cases he:r.1=0
 ·have h1:=hmet (t:=r.2) (by rw[←he])
  have hg:=hgd he
  have hml:r.2.m.length≤65536:=Nat.le_trans hg.m hg.n
  have ob:=h1.goes
  obtain⟨gf,of,k,hG⟩:=ob
  exact⟨gf,of,k,⟨fun _=>h1,fun _=>hml,fun _=>hM32 he,fun _=>hG⟩,Nat.le_trans (h1.of_le hG).1 hml⟩
 ·exact⟨[],[],0,⟨fun h=>absurd h he,fun h=>absurd h he,fun h=>absurd h he,fun h=>absurd h he⟩,Nat.zero_le _⟩
section
variable{r:Int×WS}
theorem Wkd.of32 (h:Wkd s d r gf of k) (he:r.1=0):∀x∈of,x.length=32:=fun x hx=>(h.met he).len x (((h.met he).of_le (h.go he)).2 x hx)
theorem Wkd.ofl (h:Wkd s d r gf of k) (he:r.1=0):of.length≤65536:=Nat.le_trans ((h.met he).of_le (h.go he)).1 (h.len he)
theorem Wkd.got (h:Wkd s d r gf of k) (he:r.1=0):∀x∈of,(s.get x).2=0:=fun x hx=>by
 have hxU:=((h.met he).of_le (h.go he)).2 x hx
 rw[ordM_mem] at hxU
 have ob:=List.mem_map.1 hxU
 obtain⟨p,hp,rfl⟩:=ob
 exact(h.met he).got p hp
theorem Wkd.self (h:Wkd s d r gf of k):(cpR r s (s.gotN r.2.g) of).1=0:=by
 by_cases he:r.1=0
 ·rw[cpR_ok he]
  refine copyR_self fun p hp=>?_
  have ob:=List.mem_map.1 hp
  obtain⟨x,hx,rfl⟩:=ob
  show s.get x=((s.get x).1,0)
  rw[←h.got he x hx]
 ·rw[cpR_bad he]
end
section
variable (W:Wkd s d (runs s (rmOf rn rd rb) [rootS d] ws0) gf of k) (ok:s.Ok) (hfew:s.Few N) (hN:N<900000000) (hd:d.length=32) (hrm:(rmOf rn rd rb).Ok)
include W ok hfew hN hd hrm
theorem copySelf_spec (hR:PRep bp s D L) (hw:Lives (L++D) w0) :
  Calls Tryz.prog 25 #[.pointer (some ⟨bp,0,none⟩),.pointer (some ⟨bp,0,none⟩),.agg (u8s d).toArray,.agg #[.int .i64 rn,.int .i64 rd,.int .i64 rb]] w0 fun e w'=>∃L2 D2,e=.returned (.tuple #[.int .i64 ((cpR (runs s (rmOf rn rd rb) [rootS d] ws0) s (s.gotN (runs s (rmOf rn rd rb) [rootS d] ws0).2.g) of).1:Nat),.int .i64 (cpR (runs s (rmOf rn rd rb) [rootS d] ws0) s (s.gotN (runs s (rmOf rn rd rb) [rootS d] ws0).2.g) of).2.1])∧
   PRep bp (cpR (runs s (rmOf rn rd rb) [rootS d] ws0) s (s.gotN (runs s (rmOf rn rd rb) [rootS d] ws0).2.g) of).2.2 (D2++D) L2∧Step (L.map (·.1)) (L2++D2) w0 w':=by
 have hrg:=runs_g (s:=s) hrm d
 have hwk:=fun{w:World} h=>fwalk_spec (w0:=w) hR ok hfew (by omega) hd hrm h
 have ob:∃r,runs s (rmOf rn rd rb) [rootS d] ws0=r:=⟨_,rfl⟩
 obtain⟨r,hr⟩:=ob
 rw[hr] at hrg W⊢
 simp only[hr] at hwk
 have hwd:=fun{w:World} (h:Lives (L++([]++D)) w)=>width_abs (w0:=w) hR ok h
 refine(copyP_spec (bf:=bp) (tp:=bp) (Q:=fun _ O=>O=[]) (Lt:=L) (O:=[]) (D:=D) (s:=s) (t1:=s.gotN r.2.g) (r:=r) (N:=N+r.2.g) (fun h _=>h) hwd hwd (fun {w} h=>(hwk h).mono ?_) ok (ok.gotN _) (hfew.gotN _) (by omega) hd W.met W.len W.go hw).mono ?_
 ·rintro e w' ⟨v,L',D',M,he,hP,hM,_,hq⟩
  exact⟨v,L',[],D',M,he,hP,rfl,hM,by rw[List.append_nil];exact hq⟩
 ·rintro e w' ⟨L2,O2,D2,he,hP,rfl,hq⟩
  rw[List.append_nil] at hq
  exact⟨L2,D2,he,hP,hq⟩
theorem copySelfR_spec (hR:RRep br s D R) (hw:Lives (R++D) w0) :
  Calls Tryz.prog 26 #[.pointer (some ⟨br,0,none⟩),.pointer (some ⟨br,0,none⟩),.agg (u8s d).toArray,.agg #[.int .i64 rn,.int .i64 rd,.int .i64 rb]] w0 fun e w'=>∃R2 D2,e=.returned (.tuple #[.int .i64 ((cpR (runs s (rmOf rn rd rb) [rootS d] ws0) s (s.gotN (runs s (rmOf rn rd rb) [rootS d] ws0).2.g) of).1:Nat),.int .i64 (cpR (runs s (rmOf rn rd rb) [rootS d] ws0) s (s.gotN (runs s (rmOf rn rd rb) [rootS d] ws0).2.g) of).2.1])∧
   RRep br (cpR (runs s (rmOf rn rd rb) [rootS d] ws0) s (s.gotN (runs s (rmOf rn rd rb) [rootS d] ws0).2.g) of).2.2 (D2++D) R2∧Step (R.map (·.1)) (R2++D2) w0 w':=by
 have hrg:=runs_g (s:=s) hrm d
 have hwk:=fun{w:World} h=>walkR_spec (w0:=w) hR ok hfew (by omega) hd hrm h
 have ob:∃r,runs s (rmOf rn rd rb) [rootS d] ws0=r:=⟨_,rfl⟩
 obtain⟨r,hr⟩:=ob
 rw[hr] at hrg W⊢
 simp only[hr] at hwk
 have ob:=hR.look ok.len
 obtain⟨ra,rc,_,hlk⟩:=ob
 have hwd:∀{w:World},Lives (R++([]++D)) w→At w br 0 [.int .i64 (s.k:Nat)]:=fun h=>(hlk fun p hp=>h.has p (List.mem_append_left _ hp)).1.left (cs:=[_])
 refine(copyDR_spec (bf:=br) (tp:=br) (Q:=fun _ O=>O=[]) (I:=fun t=>t.k=s.k∧t.Ok∧∀x∈of,t.get x=((s.get x).1,0)) (Rt:=R) (O:=[]) (D:=D) (s:=s) (t1:=s.gotN r.2.g) (r:=r) (N:=N+r.2.g) (fun h _=>h) hwd hwd (fun {w} h=>(hwk h).mono ?_) ?_ ?_ ?_ ?_ ok (ok.gotN _) (hfew.gotN _) (by omega) hd W.of32 W.ofl hw).mono ?_
 ·rintro e w' ⟨v,Lv,R',D',he,hP,hM,hq⟩
  exact⟨v,R',[],D',Lv,he,hP,rfl,fun h0=>by rw[if_pos h0] at hM;exact hM,by rw[List.append_nil];exact hq⟩
 ·rintro he v D1 O1 R1 Lv w hR1 rfl hv hsub hl
  have hm:=W.met he
  exact behindR_spec hR1 (ok.gotN _) (⟨hm.head,hm.got,hm.len,hm.sub⟩:Met (s.gotN r.2.g) d r.2.m) hv hsub (W.len he) (W.m32 he) (partsM_len _ _) (W.go he) hl
 ·rintro he x t D1 O1 R1 w hx ⟨hk,okt,hI⟩ hR1 rfl hl
  have hg:=hI x hx
  have hraw:t.raw x=(s.get x).1:=by rw[get_raw (by rw[hg]),hg]
  refine(rraw_abs hR1 okt hl (W.of32 he x hx)).mono ?_
  rintro e w' ⟨v,Lv,h1,h2,h3⟩
  rw[hraw] at h2
  exact⟨v,_,Lv,h1,h2,h3⟩
 ·exact fun he=>⟨rfl,ok.gotN _,fun x hx=>by show s.get x=_;rw[←W.got he x hx]⟩
 ·rintro he t x hx ⟨hk,okt,hI⟩ hp
  have h1:=put_there (hI x hx) hp
  rw[h1]
  exact⟨hk,⟨okt.k1,okt.k2,okt.cap,okt.sorted,okt.len,okt.used⟩,hI⟩
 ·rintro e w' ⟨L2,O2,D2,he,hP,rfl,hq⟩
  rw[List.append_nil] at hq
  exact⟨L2,D2,he,hP,hq⟩
end
end
end Go.Gx
namespace Go.Gx
open Go.Proofs Go.RowKit
attribute [local irreducible] shaL cutD frontL
section
variable{wd cp z rn rd rb:Int}{x:Stup}
set_option maxHeartbeats 16000000 in
theorem flowSelf_spec (w0:World) (hx:x.Ok w0) (hz : -9223372036854775808≤z∧z≤9223372036854775807) (hn : -9223372036854775808≤rn∧rn≤9223372036854775807) (hd : -9223372036854775808≤rd∧rd≤9223372036854775807) (hb : -9223372036854775808≤rb∧rb≤9223372036854775807) :
  Calls Tryz.prog 5 #[.int .i64 wd,.agg x.cells.toArray,.int .i64 z,.agg #[.int .i64 rn,.int .i64 rd,.int .i64 rb]] w0 (Ret0 (.bool true) w0):=by
 have hs:Step [] [] w0 w0:=Step.refl w0
 have hcl:x.cells.length=6:=rfl
 have hrm:=rmOf_ok hn hd hb
 by_cases hbad:(wd<1∨32<wd)∨¬(0≤x.cap∧x.cap≤67108864)
 ·refine calls (n:=80) Tryz.func5 rfl rfl rfl ?_
  refine sr<|WL.box (cs:=x.cells) rfl rfl rfl hs (fun b5 w hs=>?_)
  refine WL.box (cs:=[.int .i64 rn,.int .i64 rd,.int .i64 rb]) rfl rfl rfl hs (fun b7 w hs=>?_)
  refine wA<|wZ<|cq<|sr<|wE rfl (run_call en15 rfl rfl) (known8_spec _) ?_
  rintro e w ⟨rfl,hq⟩
  refine⟨_,rfl,?_⟩
  replace hs:=hs.callE hq
  refine wV (run_not rfl)<|wZ<|CW.cond rfl (fun h=>?_) (fun h=>?_)
  ·cases h
  refine ck<|sr<|wm<|wV (run_loadN ty28 rfl hcl hs.a1)<|wE rfl (run_call en16 rfl rfl) (made8_bad hbad rfl _) ?_
  rintro e w ⟨rfl,hq⟩
  refine⟨_,rfl,?_⟩
  replace hs:=hs.callE hq
  refine wm<|wx rfl rfl<|wx rfl rfl<|wA<|wA<|wZ<|cq<|sr<|wm<|wV (run_not rfl)<|wm<|wy<|wm ?_
  refine wy<|wV (run_nilNil u32 rfl rfl)<|wV (run_pickF rfl)<|wZ<|CW.cond rfl (fun h=>?_) (fun h=>?_)
  ·refine sr<|wm<|wA<|wZ<|CW.ret ?_
   refine fin_ret1 rfl ?_
   exact⟨rfl,hs.clear⟩
  ·cases h
 have ob:∃k:Nat,wd=k:=⟨wd.toNat,by omega⟩
 obtain⟨k,rfl⟩:=ob
 have ob:∃c:Nat,x.cap=c:=⟨x.cap.toNat,by omega⟩
 obtain⟨c,hc⟩:=ob
 refine calls (n:=80) Tryz.func5 rfl rfl rfl ?_
 refine sr<|WL.box (cs:=x.cells) rfl rfl rfl hs (fun b5 w hs=>?_)
 refine WL.box (cs:=[.int .i64 rn,.int .i64 rd,.int .i64 rb]) rfl rfl rfl hs (fun b7 w hs=>?_)
 refine wA<|wZ<|cq<|sr<|wE rfl (run_call en15 rfl rfl) (known8_spec _) ?_
 rintro e w ⟨rfl,hq⟩
 refine⟨_,rfl,?_⟩
 replace hs:=hs.callE hq
 refine wV (run_not rfl)<|wZ<|CW.cond rfl (fun h=>?_) (fun h=>?_)
 ·cases h
 refine ck<|sr<|wm<|wV (run_loadN ty28 rfl hcl hs.a1)<|wE rfl (run_call en16 rfl rfl) (made8_spec (by omega) (by omega) (by omega) hc _ (hx.step0 hs.clear)) ?_
 rintro e w ⟨bw,bp,br,rfl,s,roots,vR,LR,L,R,D,hM,few,hsk,hrl⟩
 refine⟨_,rfl,?_⟩
 have hs2:=Step.call0 hs hM.hs
 replace hs:=Step.perm hs2 perm_w1
 refine wm<|wx rfl rfl<|wx rfl rfl<|wA<|wA<|wZ ?_
 have ok:=hM.ok
 have ob:∃d,rootF roots s.X z=d:=⟨_,rfl⟩
 obtain⟨d,hdE⟩:=ob
 have hd32:=rootF_len (z:=z) hM.r32 ok.len
 rw[hdE] at hd32
 have ob:∃r,runs s (rmOf rn rd rb) [rootS d] ws0=r:=⟨_,rfl⟩
 obtain⟨r,hr⟩:=ob
 have hrg:=runs_g (s:=s) hrm d
 have ob:=runs_wkd (s:=s) hd32 hrm
 obtain⟨gf,of,kk,W,hofl⟩:=ob
 have hn0:=W.self
 have hre:=fun{w:World} h=>copySelf_spec (w0:=w) W ok few (by omega) hd32 hrm hM.pr h
 have hrr:=fun{w:World}{D1:List (Nat×Obj)} h=>copySelfR_spec (w0:=w) W ok few (by omega) hd32 hrm (hM.rr.mono (D':=D1++D) mem_right) h
 rw[hr] at hrg hn0
 simp only[hr] at hre hrr
 have hpo:=cpR_ok' (r:=r) (s:=s) (of:=of) (ok.gotN r.2.g)
 have ob:∃pk,cpR r s (s.gotN r.2.g) of=pk:=⟨_,rfl⟩
 obtain⟨pk,hpk⟩:=ob
 rw[hpk] at hn0 hpo
 simp only[hpk] at hre hrr
 obtain⟨n0,e0,u⟩:=pk
 obtain rfl:n0=0:=hn0
 replace hpo:u.Ok:=hpo
 simp only at hre hrr
 have hroot:∀{w:World}{L1 D1:List (Nat×Obj)},Step [] (((b7,blk 30 [.int .i64 rn,.int .i64 rd,.int .i64 rb])::(b5,blk 28 x.cells)::(bw,blk 42 (w8C bp br vR))::LR)++(L1++(R++D1))) w0 w→Calls Tryz.prog 18 #[.pointer (some ⟨bw,0,none⟩),.int .i64 z] w (Ret0 (.agg (u8s d).toArray) w):=fun {w L1 D1} h=>by
  have h2:=root8_spec (z:=z) (w:=w) (bw:=bw) (bp:=bp) (br:=br) (vR:=vR) (roots:=roots) (At.of_blk (h.has (bw,blk 42 (w8C bp br vR)) (by simp))) (Dgs.own hM.vr (fun p hp=>h.has p (mem_w2 hp)) hM.r32 (by omega)) hM.rr (fun p hp=>h.has p (mem_w1 hp)) ok (by omega) hz
  rw[hdE] at h2;exact h2
 refine cq<|sr<|wm<|wV (run_not rfl)<|wm<|wy<|wm<|wy<|wV (run_ptrNil u32 rfl rfl)<|wV (run_pickF rfl)<|wZ<|CW.cond rfl (fun h=>?_) (fun h=>?_)
 ·cases h
 refine ck<|cq<|CW.any (A:=fun w=>Step [] [(b7,blk 30 [.int .i64 rn,.int .i64 rd,.int .i64 rb]),(b5,blk 28 x.cells),(bw,blk 42 (w8C bp br vR))] w0 w) (C:=fun w=>Step [] [(b7,blk 30 [.int .i64 rn,.int .i64 rd,.int .i64 rb]),(b5,blk 28 x.cells),(bw,blk 42 (w8C bp br vR))] w0 w) 1000000 18 mixedP rfl ?_
 replace hs:=hs.drew
 refine aM 0 rfl<|aV 1 rfl (fun w hs=>run_nilCheck rfl)<|aV 2 rfl (fun w hs=>run_field (o':=0) u42 rfl ty39 rfl rfl rfl)<|aV 3 rfl (fun w hs=>run_load1 ty39 rfl (hs.c2 rfl))<|aM 4 rfl<|aV 5 rfl (fun w hs=>run_nilCheck rfl)<|aV 6 rfl (fun w hs=>run_field (o':=0) u42 rfl ty39 rfl rfl rfl)<|aV 7 rfl (fun w hs=>run_load1 ty39 rfl (hs.c2 rfl))<|aM 8 rfl<|aM 9 rfl<|aV 11 rfl (fun w hs=>run_loadN ty30 rfl rfl hs.a0)<|AL.one 10 (by kernel_rfl) rfl (Step.dropR (L1:=[_,_,_]) hs) (Step.dropR (L1:=[_,_,_]) hs) ?_
 refine wE rfl (run_call en18 rfl rfl) (hroot hs) ?_
 rintro e w ⟨rfl,hq⟩
 refine⟨_,rfl,?_⟩
 replace hs:=hs.callE hq
 refine wZ<|⟨rfl,?_⟩
 refine AL.one 12 (by kernel_rfl) rfl (Step.dropR (L1:=[_,_,_]) hs) (Step.dropR (L1:=[_,_,_]) hs) ?_
 refine wE rfl (run_call en25 rfl rfl) (hre (Two.live (A:=_::_::_::LR) hs)) ?_
 rintro e w ⟨L1,D1,rfl,hP1,hq1⟩
 refine⟨_,rfl,?_⟩
 replace hs:=Two.put (A:=_::_::_::LR) hs hq1
 refine wZ<|⟨rfl,?_⟩
 refine aM 13 rfl<|aV 14 rfl (fun w hs=>run_extract rfl rfl)<|aV 15 rfl (fun w hs=>run_extract rfl rfl)<|aV 16 rfl (fun w hs=>run_assign)<|aV 17 rfl (fun w hs=>run_assign)<|AL.end (by kernel_rfl) (Step.dropR (L1:=[_,_,_]) hs) (Step.dropR (L1:=[_,_,_]) hs) ?_
 refine cq<|CW.any (A:=fun w=>Step [] [(b7,blk 30 [.int .i64 rn,.int .i64 rd,.int .i64 rb]),(b5,blk 28 x.cells),(bw,blk 42 (w8C bp br vR))] w0 w) (C:=fun w=>Step [] [(b7,blk 30 [.int .i64 rn,.int .i64 rd,.int .i64 rb]),(b5,blk 28 x.cells),(bw,blk 42 (w8C bp br vR))] w0 w) 1000000 18 mixedP rfl ?_
 replace hs:=hs.drew
 refine aM 0 rfl<|aV 1 rfl (fun w hs=>run_nilCheck rfl)<|aV 2 rfl (fun w hs=>run_field (o':=1) u42 rfl ty40 rfl rfl rfl)<|aV 3 rfl (fun w hs=>run_load1 ty40 rfl (hs.c2 rfl))<|aM 4 rfl<|aV 5 rfl (fun w hs=>run_nilCheck rfl)<|aV 6 rfl (fun w hs=>run_field (o':=1) u42 rfl ty40 rfl rfl rfl)<|aV 7 rfl (fun w hs=>run_load1 ty40 rfl (hs.c2 rfl))<|aM 8 rfl<|aM 9 rfl<|aV 11 rfl (fun w hs=>run_loadN ty30 rfl rfl hs.a0)<|AL.one 10 (by kernel_rfl) rfl (Step.dropR (L1:=[_,_,_]) hs) (Step.dropR (L1:=[_,_,_]) hs) ?_
 refine wE rfl (run_call en18 rfl rfl) (hroot hs) ?_
 rintro e w ⟨rfl,hq2⟩
 refine⟨_,rfl,?_⟩
 replace hs:=hs.callE hq2
 refine wZ<|⟨rfl,?_⟩
 refine AL.one 12 (by kernel_rfl) rfl (Step.dropR (L1:=[_,_,_]) hs) (Step.dropR (L1:=[_,_,_]) hs) ?_
 refine wE rfl (run_call en26 rfl rfl) (hrr (Two.rlive (A:=_::_::_::LR) hs)) ?_
 rintro e w ⟨R1,D2,rfl,hR1,hq3⟩
 refine⟨_,rfl,?_⟩
 replace hs:=Two.rput (A:=_::_::_::LR) hs hq3
 refine wZ<|⟨rfl,?_⟩
 refine aM 13 rfl<|aV 14 rfl (fun w hs=>run_extract rfl rfl)<|aV 15 rfl (fun w hs=>run_extract rfl rfl)<|aV 16 rfl (fun w hs=>run_assign)<|aV 17 rfl (fun w hs=>run_assign)<|AL.end (by kernel_rfl) (Step.dropR (L1:=[_,_,_]) hs) (Step.dropR (L1:=[_,_,_]) hs) ?_
 have hP2:PRep bp u (D2++(D1++D)) L1:=hP1.mono mem_right
 have hal:=fun{w:World} h1 h2=>alike8_spec (w0:=w) hP2 hR1 hpo h1 h2
 refine cq<|CW.quiet mixedP (by kernel_rfl) hs ?_
 refine qm<|qV (fun w hs=>run_bT (run_eql rfl rfl) (by rfl))<|qm<|qy<|qm<|qy<|qm<|qy<|qV (fun w hs=>run_bT (run_eql rfl rfl) (by rfl))<|qV (fun w hs=>run_pickT rfl)<|qm<|qy<|qm<|qy<|qn rfl ?_
 refine qy<|qF 0 u42 rfl ty39 rfl<|qy<|qV (fun w hs=>run_load1 ty39 rfl (hs.c2 rfl))<|qy<|qm<|qy<|qn rfl<|qy<|qF 1 u42 rfl ty40 rfl<|qy<|qV (fun w hs=>run_load1 ty40 rfl (hs.c2 rfl))<|qy<|QL.enter rfl (fun w=>run_call en22 rfl rfl) (fun w hs=>hal (Two.live (A:=_::_::_::LR) hs) (Two.rlive (A:=_::_::_::LR) hs)) ?_
 refine qV (fun w hs=>run_pickT rfl)<|qV (fun w hs=>run_assign)<|QL.nil (fun w hs=>?_)
 refine CW.ret ?_
 refine fin_ret1 rfl ?_
 exact⟨rfl,hs.clear⟩
end
end Go.Gx
namespace Go.Gx
open Go.Proofs
attribute [local irreducible] shaL cutD frontL
def cp2 (r:Int×WS) (s t:AS) (of:List (List UInt8)):(Nat×Int×AS)×AS:=if s.k=t.k then (cpR r s t of,s.gotN r.2.g) else ((0,3,t),s)
section
variable{A B X:List (Nat×Obj)}{w w' w0:World}{S:List Nat}
theorem Lives.as3 (h:Lives ((A++B)++X) w):Lives (A++(B++X)) w:=by rwa [List.append_assoc] at h
theorem Lives.two (h:Lives (A++(B++X)) w):Lives (A++X) w:=h.sub ((List.Sublist.refl A).append (List.sublist_append_right B X))
end
section
variable{bp br tp tr:Nat}{s t:AS}{D L Lt R Rt:List (Nat×Obj)}{d:List UInt8}{rn rd rb:Int}{N k:Nat}{gf of:List (List UInt8)}{w0:World}
section
variable (W:Wkd s d (runs s (rmOf rn rd rb) [rootS d] ws0) gf of k) (ok:s.Ok) (okt:t.Ok) (hfew:s.Few N) (hft:t.Few N) (hN:N<900000000) (hd:d.length=32) (hrm:(rmOf rn rd rb).Ok)
include W ok okt hfew hft hN hd hrm
theorem copyTwo_spec (hT:PRep tp t D Lt) (hR:PRep bp s D L) (hw:Lives ((Lt++L)++D) w0) :
  Calls Tryz.prog 25 #[.pointer (some ⟨bp,0,none⟩),.pointer (some ⟨tp,0,none⟩),.agg (u8s d).toArray,.agg #[.int .i64 rn,.int .i64 rd,.int .i64 rb]] w0 fun e w'=>∃L2 O2 D2,e=.returned (.tuple #[.int .i64 ((cp2 (runs s (rmOf rn rd rb) [rootS d] ws0) s t of).1.1:Nat),.int .i64 (cp2 (runs s (rmOf rn rd rb) [rootS d] ws0) s t of).1.2.1])∧
   PRep tp (cp2 (runs s (rmOf rn rd rb) [rootS d] ws0) s t of).1.2.2 (D2++D) L2∧PRep bp (cp2 (runs s (rmOf rn rd rb) [rootS d] ws0) s t of).2 (D2++D) O2∧Step (List.map (·.1) (Lt++L)) ((L2++O2)++D2) w0 w':=by
 replace hw:=hw.as3
 have hwk:=fun{w:World} h=>fwalk_spec (w0:=w) hR ok hfew (by omega) hd hrm h
 have ob:∃r,runs s (rmOf rn rd rb) [rootS d] ws0=r:=⟨_,rfl⟩
 obtain⟨r,hr⟩:=ob
 rw[hr] at W⊢
 simp only[hr] at hwk
 have hwf:=fun{w:World} (h:Lives (Lt++(L++D)) w)=>width_abs (w0:=w) hR ok (Own.live h)
 have hwt:=fun{w:World} (h:Lives (Lt++(L++D)) w)=>width_abs (w0:=w) hT okt h.two
 by_cases hk:s.k=t.k
 ·rw[cp2,if_pos hk]
  rw[←hk] at hwt
  refine(copyP_spec (bf:=bp) (tp:=tp) (Q:=fun D O=>PRep bp (s.gotN r.2.g) D O) (Lt:=Lt) (O:=L) (D:=D) (s:=s) (t1:=t) (r:=r) (N:=N) (fun h hm=>h.mono hm) hwf hwt (fun {w} h=>(hwk (Own.live h)).mono ?_) ok okt hft (by omega) hd W.met W.len W.go hw).mono ?_
  ·rintro e w' ⟨v,L',D',M,he,hP,hM,_,hq⟩
   exact⟨v,Lt,L',D',M,he,hT.mono mem_right,hP,hM,Step.fin3 (Y:=Lt++(L'++(M++D'))) h (by
    have h2:=Own.put (A:=Lt) (L:=L) h hq
    have e:(Lt++(L'++(M++D')))++D=Lt++(L'++((M++D')++D)):=by simp[List.append_assoc]
    rw[e];exact h2)⟩
  ·rintro e w' ⟨L2,O2,D2,he,hP,hQ,hq⟩
   exact⟨L2,O2,D2,he,hP,hQ,by rw[List.append_assoc];exact hq⟩
 ·rw[cp2,if_neg hk]
  have hdl:(u8s d).length=32:=by rw[u8s,List.length_map,hd]
  have hs:Step (List.map (·.1) (Lt++(L++D))) (Lt++(L++D)) w0 w0:=hw
  refine calls (n:=67) Tryz.func25 rfl rfl rfl ?_
  refine sr<|WL.box (cs:=u8s d) rfl rfl rfl hs (fun b6 w hs=>?_)
  refine WL.box (cs:=[.int .i64 rn,.int .i64 rd,.int .i64 rb]) rfl rfl rfl hs (fun b7 w hs=>?_)
  refine wA<|wA<|wZ<|cq<|sr<|wm<|wE rfl (run_call en69 rfl rfl) (hwf (Lives.mk hs.tail.tail)) ?_
  rintro e w ⟨rfl,hq⟩
  refine⟨_,rfl,?_⟩
  replace hs:=hs.callE hq
  refine wm<|wE rfl (run_call en69 rfl rfl) (hwt (Lives.mk hs.tail.tail)) ?_
  rintro e w ⟨rfl,hq⟩
  refine⟨_,rfl,?_⟩
  replace hs:=hs.callE hq
  refine wV (run_bT (run_neq rfl rfl) (by exact fun h=>hk (Int.ofNat.inj h)))<|wZ<|CW.cond rfl (fun h=>?_) (fun h=>?_)
  ·refine sr<|wA<|wA<|wZ<|CW.ret ?_
   refine fin_ret2 rfl ?_
   exact⟨Lt,L,[],rfl,hT,hR,by rw[List.append_nil];exact Step.fin3 (Y:=Lt++L) hw (by rw[List.append_assoc];exact hs.tail.tail)⟩
  ·cases h
theorem copyTwoR_spec (hT:RRep tr t D Rt) (hR:RRep br s D R) (hw:Lives ((Rt++R)++D) w0) :
  Calls Tryz.prog 26 #[.pointer (some ⟨br,0,none⟩),.pointer (some ⟨tr,0,none⟩),.agg (u8s d).toArray,.agg #[.int .i64 rn,.int .i64 rd,.int .i64 rb]] w0 fun e w'=>∃R2 O2 D2,e=.returned (.tuple #[.int .i64 ((cp2 (runs s (rmOf rn rd rb) [rootS d] ws0) s t of).1.1:Nat),.int .i64 (cp2 (runs s (rmOf rn rd rb) [rootS d] ws0) s t of).1.2.1])∧
   RRep tr (cp2 (runs s (rmOf rn rd rb) [rootS d] ws0) s t of).1.2.2 (D2++D) R2∧RRep br (cp2 (runs s (rmOf rn rd rb) [rootS d] ws0) s t of).2 (D2++D) O2∧Step (List.map (·.1) (Rt++R)) ((R2++O2)++D2) w0 w':=by
 replace hw:=hw.as3
 have hwk:=fun{w:World} h=>walkR_spec (w0:=w) hR ok hfew (by omega) hd hrm h
 have ob:∃r,runs s (rmOf rn rd rb) [rootS d] ws0=r:=⟨_,rfl⟩
 obtain⟨r,hr⟩:=ob
 rw[hr] at W⊢
 simp only[hr] at hwk
 have ob:=hR.look ok.len
 obtain⟨ra,rc,_,hlk⟩:=ob
 have ob:=hT.look okt.len
 obtain⟨ta,tc,_,htk⟩:=ob
 have hwf:∀{w:World},Lives (Rt++(R++D)) w→At w br 0 [.int .i64 (s.k:Nat)]:=fun h=>(hlk fun p hp=>h.has p (by simp[hp])).1.left (cs:=[_])
 have hwt:∀{w:World},Lives (Rt++(R++D)) w→At w tr 0 [.int .i64 (t.k:Nat)]:=fun h=>(htk fun p hp=>h.has p (by simp[hp])).1.left (cs:=[_])
 by_cases hk:s.k=t.k
 ·rw[cp2,if_pos hk]
  rw[←hk] at hwt
  refine(copyDR_spec (bf:=br) (tp:=tr) (Q:=fun D O=>RRep br (s.gotN r.2.g) D O) (I:=fun _=>True) (Rt:=Rt) (O:=R) (D:=D) (s:=s) (t1:=t) (r:=r) (N:=N) (fun h hm=>h.mono hm) hwf hwt (fun {w} h=>(hwk (Own.live h)).mono ?_) ?_ ?_ (fun _=>trivial) (fun _ _ _ _ _ _=>trivial) ok okt hft (by omega) hd W.of32 W.ofl hw).mono ?_
  ·rintro e w' ⟨v,Lv,R',D',he,hP,hM,hq⟩
   exact⟨v,Rt,R',D',Lv,he,hT.mono mem_right,hP,fun h0=>by rw[if_pos h0] at hM;exact hM,Step.fin3 (Y:=Rt++(R'++(Lv++D'))) h (by
    have h2:=Own.put (A:=Rt) (L:=R) h hq
    have e:(Rt++(R'++(Lv++D')))++D=Rt++(R'++((Lv++D')++D)):=by simp[List.append_assoc]
    rw[e];exact h2)⟩
  ·rintro he v D1 O1 R1 Lv w hR1 hQ1 hv hsub hl
   have hm:=W.met he
   exact behindR_spec hQ1 (ok.gotN _) (⟨hm.head,hm.got,hm.len,hm.sub⟩:Met (s.gotN r.2.g) d r.2.m) hv hsub (W.len he) (W.m32 he) (partsM_len _ _) (W.go he) hl.two
  ·rintro he x t' D1 O1 R1 w hx _ hR1 hQ1 hl
   have hraw:(s.gotN r.2.g).raw x=(s.get x).1:=get_raw (W.got he x hx)
   refine(rraw_abs hQ1 (ok.gotN _) hl.two (W.of32 he x hx)).mono ?_
   rintro e w' ⟨v,Lv,h1,h2,h3⟩
   rw[hraw] at h2
   exact⟨v,_,Lv,h1,h2,h3⟩
  ·rintro e w' ⟨L2,O2,D2,he,hP,hQ,hq⟩
   exact⟨L2,O2,D2,he,hP,hQ,by rw[List.append_assoc];exact hq⟩
 ·rw[cp2,if_neg hk]
  have hdl:(u8s d).length=32:=by rw[u8s,List.length_map,hd]
  have hs:Step (List.map (·.1) (Rt++(R++D))) (Rt++(R++D)) w0 w0:=hw
  refine calls (n:=84) Tryz.func26 rfl rfl rfl ?_
  refine sr<|WL.box (cs:=u8s d) rfl rfl rfl hs (fun b6 w hs=>?_)
  refine WL.box (cs:=[.int .i64 rn,.int .i64 rd,.int .i64 rb]) rfl rfl rfl hs (fun b7 w hs=>?_)
  refine wA<|wA<|wZ<|cq<|cq<|CW.quiet mixedP (by kernel_rfl) hs ?_
  refine qm<|qn rfl<|qF 0 u54 rfl ty3 rfl<|qV (fun w hs=>run_load1 ty3 rfl ((hwf (Lives.mk hs.tail.tail)).cell (j:=0) rfl))<|qm<|qn rfl<|qF 0 u54 rfl ty3 rfl<|qV (fun w hs=>run_load1 ty3 rfl ((hwt (Lives.mk hs.tail.tail)).cell (j:=0) rfl))<|qV (fun w hs=>run_bT (run_neq rfl rfl) (by exact fun h=>hk (Int.ofNat.inj h)))<|QL.nil (fun w hs=>?_)
  refine CW.cond rfl (fun h=>?_) (fun h=>?_)
  ·refine sr<|wA<|wA<|wZ<|CW.ret ?_
   refine fin_ret2 rfl ?_
   exact⟨Rt,R,[],rfl,hT,hR,by rw[List.append_nil];exact Step.fin3 (Y:=Rt++R) hw (by rw[List.append_assoc];exact hs.tail.tail)⟩
  ·cases h
end
theorem cp2_ok{r:Int×WS} (ok:s.Ok) (okt:t.Ok):(cp2 r s t of).1.2.2.Ok∧(cp2 r s t of).2.Ok:=by
 unfold cp2
 split
 ·exact⟨cpR_ok' okt,ok.gotN _⟩
 ·exact⟨okt,ok⟩
theorem cp2_few{r:Int×WS} (hs:s.Few N) (ht:t.Few N):(cp2 r s t of).1.2.2.Few (N+of.length)∧(cp2 r s t of).2.Few (N+r.2.g):=by
 unfold cp2
 split
 ·exact⟨cpR_few ht,hs.gotN _⟩
 ·exact⟨ht.mono (by omega),hs.mono (by omega)⟩
end
end Go.Gx
namespace Go.Gx
open Go.Proofs Go.RowKit
attribute [local irreducible] shaL cutD frontL
section
open Go.ChangeShapes Go.WideShapes Go.ChangeAt Go.Deep
variable{H:Type}{enc:TypeId×Value→H}{w:World}{spare:Nat→Bool}{held:Bool}
theorem open_b{v:Value}{d:DataW H}{ps:List MemPlace}{r:Reach}{b0:Nat}{base:Nat} (hval:Value.okWide Tryz.prog w r b0 4 v) (h:DataW.Trod enc Tryz.prog w base spare held 4 v d ps):∃b:Bool,v=.bool b:=by
 have ob:=open_bool u4 hval h
 obtain⟨n,rfl,_⟩:=ob
 exact⟨n,rfl⟩
end
section
variable{α:Type}{a b c e f:α}{A B C D A' B' C' D':List α}
theorem perm_c1:((e::(A++(B++(C++D))))++[a,b,c]).Perm (a::b::c::e::(A++(B++(C++D)))):=by
 classical exact List.perm_iff_count.2 fun x=>by simp only[List.count_append,List.count_cons,List.count_nil];omega
theorem perm_c2:((f::(A'++(B'++(C'++D'))))++(a::b::c::e::(A++(B++(C++D))))).Perm ((a::e::f::b::c::(A++A'))++((B'++B)++((C'++C)++(D'++D)))):=by
 classical exact List.perm_iff_count.2 fun x=>by simp only[List.count_append,List.count_cons,List.count_nil];omega
end
section
variable{S:List Nat}{A L O R P D:List (Nat×Obj)}{w0 w:World}
theorem Two.l1 (hs:Step S (A++((L++O)++((R++P)++D))) w0 w):Lives (L++D) w:=(Two.live hs).as3.two
theorem Two.l2 (hs:Step S (A++((L++O)++((R++P)++D))) w0 w):Lives (O++D) w:=Own.live (A:=L) (Two.live hs).as3
theorem Two.r1 (hs:Step S (A++((L++O)++((R++P)++D))) w0 w):Lives (R++D) w:=(Two.rlive hs).as3.two
theorem Two.r2 (hs:Step S (A++((L++O)++((R++P)++D))) w0 w):Lives (P++D) w:=Own.live (A:=R) (Two.rlive hs).as3
end
section
variable{wd z rn rd rb:Int}{b:Bool}{x y:Stup}
set_option maxHeartbeats 16000000 in
theorem flowCopies_spec (w0:World) (hx:x.Ok w0) (hy:y.Ok w0) (hz : -9223372036854775808≤z∧z≤9223372036854775807) (hn : -9223372036854775808≤rn∧rn≤9223372036854775807) (hd : -9223372036854775808≤rd∧rd≤9223372036854775807) (hb : -9223372036854775808≤rb∧rb≤9223372036854775807) :
  Calls Tryz.prog 6 #[.int .i64 wd,.agg x.cells.toArray,.bool b,.agg y.cells.toArray,.int .i64 z,.agg #[.int .i64 rn,.int .i64 rd,.int .i64 rb]] w0 (Ret0 (.bool true) w0):=by
 have hs:Step [] [] w0 w0:=Step.refl w0
 have hcl:x.cells.length=6:=rfl
 have hcy:y.cells.length=6:=rfl
 have hrm:=rmOf_ok hn hd hb
 by_cases hbad:(wd<1∨32<wd)∨¬(0≤x.cap∧x.cap≤67108864)
 ·refine calls (n:=143) Tryz.func6 rfl rfl rfl ?_
  refine sr<|WL.box (cs:=x.cells) rfl rfl rfl hs (fun b7 w hs=>?_)
  refine WL.box (cs:=y.cells) rfl rfl rfl hs (fun b9 w hs=>?_)
  refine WL.box (cs:=[.int .i64 rn,.int .i64 rd,.int .i64 rb]) rfl rfl rfl hs (fun b11 w hs=>?_)
  refine wA<|wZ<|cq<|sr<|wE rfl (run_call en15 rfl rfl) (known8_spec _) ?_
  rintro e w ⟨rfl,hq⟩
  refine⟨_,rfl,?_⟩
  replace hs:=hs.callE hq
  refine wV (run_not rfl)<|wZ<|CW.cond rfl (fun h=>?_) (fun h=>?_)
  ·cases h
  refine ck<|sr<|wm<|wV (run_loadN ty28 rfl hcl hs.a2)<|wE rfl (run_call en16 rfl rfl) (made8_bad hbad rfl _) ?_
  rintro e w ⟨rfl,hq⟩
  refine⟨_,rfl,?_⟩
  replace hs:=hs.callE hq
  refine wm<|wx rfl rfl<|wx rfl rfl<|wA<|wA<|wZ<|cq<|sr<|wm<|wV (run_not rfl)<|wm<|wy<|wm ?_
  refine wy<|wV (run_nilNil u32 rfl rfl)<|wV (run_pickF rfl)<|wZ<|CW.cond rfl (fun h=>?_) (fun h=>?_)
  ·refine sr<|wm<|wA<|wZ<|CW.ret ?_
   refine fin_ret1 rfl ?_
   exact⟨rfl,hs.clear⟩
  ·cases h
 have ob:∃k:Nat,wd=k:=⟨wd.toNat,by omega⟩
 obtain⟨k,rfl⟩:=ob
 have ob:∃c:Nat,x.cap=c:=⟨x.cap.toNat,by omega⟩
 obtain⟨c,hc⟩:=ob
 have ob:∃kk:Nat,(bif b then k+1 else k)=kk:=⟨_,rfl⟩
 obtain⟨kk,hkk⟩:=ob
 refine calls (n:=143) Tryz.func6 rfl rfl rfl ?_
 refine sr<|WL.box (cs:=x.cells) rfl rfl rfl hs (fun b7 w hs=>?_)
 refine WL.box (cs:=y.cells) rfl rfl rfl hs (fun b9 w hs=>?_)
 refine WL.box (cs:=[.int .i64 rn,.int .i64 rd,.int .i64 rb]) rfl rfl rfl hs (fun b11 w hs=>?_)
 refine wA<|wZ<|cq<|sr<|wE rfl (run_call en15 rfl rfl) (known8_spec _) ?_
 rintro e w ⟨rfl,hq⟩
 refine⟨_,rfl,?_⟩
 replace hs:=hs.callE hq
 refine wV (run_not rfl)<|wZ<|CW.cond rfl (fun h=>?_) (fun h=>?_)
 ·cases h
 refine ck<|sr<|wm<|wV (run_loadN ty28 rfl hcl hs.a2)<|wE rfl (run_call en16 rfl rfl) (made8_spec (by omega) (by omega) (by omega) hc _ (hx.step0 hs.clear)) ?_
 rintro e w ⟨bw,bp,br,rfl,s,roots,vR,LR,L,R,D,hM,few,hsk,hrl⟩
 refine⟨_,rfl,?_⟩
 have hs2:=Step.call0 hs hM.hs
 replace hs:=Step.perm hs2 perm_c1
 refine wm<|wx rfl rfl<|wx rfl rfl<|wA<|wA<|wZ ?_
 have ok:=hM.ok
 refine cq<|sr<|wm<|wV (run_not rfl)<|wm<|wy<|wm<|wy<|wV (run_ptrNil u32 rfl rfl)<|wV (run_pickF rfl)<|wZ<|CW.cond rfl (fun h=>?_) (fun h=>?_)
 ·cases h
 refine ck<|CW.seqM (fun f w=>Step [] ((b11,blk 30 [.int .i64 rn,.int .i64 rd,.int .i64 rb])::(b9,blk 28 y.cells)::(b7,blk 28 x.cells)::(bw,blk 42 (w8C bp br vR))::(LR++(L++(R++D)))) w0 w∧Holds f [(0,.int .i64 (kk:Nat)),(4,.int .i64 z),(9,.pointer (some ⟨b9,0,none⟩)),(11,.pointer (some ⟨b11,0,none⟩)),(13,.pointer (some ⟨bw,0,none⟩))]) ?_ ?_
 ·cases b with
  | true=>
   obtain rfl:k+1=kk:=hkk
   refine sr<|wm<|wZ<|CW.cond rfl (fun h=>?_) (fun h=>?_)
   ·skip
    refine cr<|wm<|wV (run_add (c:=((k+1:Nat):Int)) rfl rfl (by omega) (by omega))<|wA<|wZ ?_
    exact⟨rfl,hs,rfl,rfl,rfl,rfl,rfl,trivial⟩
   ·cases h
  | false=>
   obtain rfl:k=kk:=hkk
   refine sr<|wm<|wZ<|CW.cond rfl (fun h=>?_) (fun h=>?_)
   ·cases h
   refine ck ?_
   exact⟨rfl,hs,rfl,rfl,rfl,rfl,rfl,trivial⟩
 clear hs hs2
 rintro f w ⟨hs,hf⟩
 have ob:=hf.chain
 obtain⟨g,rfl⟩:=ob
 by_cases hbad2:((kk:Int)<1∨32<(kk:Int))∨¬(0≤y.cap∧y.cap≤67108864)
 ·refine sr<|wm<|wV (run_loadN ty28 rfl hcy hs.a1)<|wE rfl (run_call en16 rfl rfl) (made8_bad hbad2 rfl _) ?_
  rintro e w ⟨rfl,hq⟩
  refine⟨_,rfl,?_⟩
  replace hs:=hs.callE hq
  refine wm<|wx rfl rfl<|wx rfl rfl<|wA<|wA<|wZ<|cq<|sr<|wm<|wV (run_not rfl)<|wm<|wy<|wm ?_
  refine wy<|wV (run_nilNil u32 rfl rfl)<|wV (run_pickF rfl)<|wZ<|CW.cond rfl (fun h=>?_) (fun h=>?_)
  ·refine sr<|wm<|wA<|wZ<|CW.ret ?_
   refine fin_ret1 rfl ?_
   exact⟨rfl,hs.clear⟩
  ·cases h
 have ob:∃c:Nat,y.cap=c:=⟨y.cap.toNat,by omega⟩
 obtain⟨c2,hc2⟩:=ob
 refine sr<|wm<|wV (run_loadN ty28 rfl hcy hs.a1)<|wE rfl (run_call en16 rfl rfl) (made8_spec (by omega) (by omega) (by omega) hc2 _ (hy.step0 hs.clear)) ?_
 rintro e w ⟨vw,vp,vr,rfl,t,troots,vT,LT,Lt,Rt,Dt,hMt,fewt,hskt,hrlt⟩
 refine⟨_,rfl,?_⟩
 have hs2:=Step.call0 hs hMt.hs
 replace hs:=Step.perm hs2 perm_c2
 refine wm<|wx rfl rfl<|wx rfl rfl<|wA<|wA<|wZ<|cq<|sr<|wm<|wV (run_not rfl)<|wm<|wy<|wm ?_
 refine wy<|wV (run_ptrNil u32 rfl rfl)<|wV (run_pickF rfl)<|wZ<|CW.cond rfl (fun h=>?_) (fun h=>?_)
 ·cases h
 have okt:=hMt.ok
 have ob:∃d,rootF roots s.X z=d:=⟨_,rfl⟩
 obtain⟨d,hdE⟩:=ob
 have hd32:=rootF_len (z:=z) hM.r32 ok.len
 rw[hdE] at hd32
 have ob:∃r,runs s (rmOf rn rd rb) [rootS d] ws0=r:=⟨_,rfl⟩
 obtain⟨r,hr⟩:=ob
 have hrg:=runs_g (s:=s) hrm d
 have ob:=runs_wkd (s:=s) hd32 hrm
 obtain⟨gf,of,kg,W,hofl⟩:=ob
 have hroot:∀{w:World}{L1 D1:List (Nat×Obj)},Step [] (((b11,blk 30 [.int .i64 rn,.int .i64 rd,.int .i64 rb])::(bw,blk 42 (w8C bp br vR))::(vw,blk 42 (w8C vp vr vT))::(b9,blk 28 y.cells)::(b7,blk 28 x.cells)::(LR++LT))++(L1++((Rt++R)++D1))) w0 w→Calls Tryz.prog 18 #[.pointer (some ⟨bw,0,none⟩),.int .i64 z] w (Ret0 (.agg (u8s d).toArray) w):=fun {w L1 D1} h=>by
  have h2:=root8_spec (z:=z) (w:=w) (bw:=bw) (bp:=bp) (br:=br) (vR:=vR) (roots:=roots) (At.of_blk (h.has (bw,blk 42 (w8C bp br vR)) (by simp))) (Dgs.own hM.vr (fun p hp=>h.has p (by simp[hp])) hM.r32 (by omega)) hM.rr (fun p hp=>h.has p (by simp[hp])) ok (by omega) hz
  rw[hdE] at h2;exact h2
 have hcp:=fun{w:World} h=>copyTwo_spec (w0:=w) W ok okt few fewt (by omega) hd32 hrm (hMt.pr.mono (D':=Dt++D) fun p hp=>List.mem_append_left _ hp) (hM.pr.mono (D':=Dt++D) mem_right) h
 have hcr:=fun{w:World}{D1:List (Nat×Obj)} h=>copyTwoR_spec (w0:=w) W ok okt few fewt (by omega) hd32 hrm (hMt.rr.mono (D':=D1++(Dt++D)) fun p hp=>List.mem_append_right _ (List.mem_append_left _ hp)) (hM.rr.mono (D':=D1++(Dt++D)) fun p hp=>List.mem_append_right _ (List.mem_append_right _ hp)) h
 rw[hr] at hrg
 simp only[hr] at hcp hcr
 have ob:=cp2_ok (r:=r) (of:=of) ok okt
 obtain⟨ok1,ok2⟩:=ob
 have ob:=cp2_few (r:=r) (of:=of) few fewt
 obtain⟨few1,few2⟩:=ob
 have ob:∃pk,cp2 r s t of=pk:=⟨_,rfl⟩
 obtain⟨pk,hpk⟩:=ob
 rw[hpk] at ok1 ok2 few1 few2
 simp only[hpk] at hcp hcr
 obtain⟨⟨n0,e0,t2⟩,s2⟩:=pk
 replace ok1:t2.Ok:=ok1
 replace ok2:s2.Ok:=ok2
 replace few1:t2.Few _:=few1
 replace few2:s2.Few _:=few2
 simp only at hcp hcr
 refine ck<|cq<|CW.any (A:=fun w=>Step [] [(b11,blk 30 [.int .i64 rn,.int .i64 rd,.int .i64 rb]),(bw,blk 42 (w8C bp br vR)),(vw,blk 42 (w8C vp vr vT))] w0 w) (C:=fun w=>Step [] [(b11,blk 30 [.int .i64 rn,.int .i64 rd,.int .i64 rb]),(bw,blk 42 (w8C bp br vR)),(vw,blk 42 (w8C vp vr vT))] w0 w) 1000000 18 mixedP rfl ?_
 replace hs:=hs.drew
 refine aM 0 rfl<|aV 1 rfl (fun w hs=>run_nilCheck rfl)<|aV 2 rfl (fun w hs=>run_field (o':=0) u42 rfl ty39 rfl rfl rfl)<|aV 3 rfl (fun w hs=>run_load1 ty39 rfl (hs.c1 rfl))<|aM 4 rfl<|aV 5 rfl (fun w hs=>run_nilCheck rfl)<|aV 6 rfl (fun w hs=>run_field (o':=0) u42 rfl ty39 rfl rfl rfl)<|aV 7 rfl (fun w hs=>run_load1 ty39 rfl (hs.c2 rfl))<|aM 8 rfl<|aM 9 rfl<|aV 11 rfl (fun w hs=>run_loadN ty30 rfl rfl hs.a0)<|AL.one 10 (by kernel_rfl) rfl (Step.dropR (L1:=[_,_,_]) hs) (Step.dropR (L1:=[_,_,_]) hs) ?_
 refine wE rfl (run_call en18 rfl rfl) (hroot hs) ?_
 rintro e w ⟨rfl,hq⟩
 refine⟨_,rfl,?_⟩
 replace hs:=hs.callE hq
 refine wZ<|⟨rfl,?_⟩
 refine AL.one 12 (by kernel_rfl) rfl (Step.dropR (L1:=[_,_,_]) hs) (Step.dropR (L1:=[_,_,_]) hs) ?_
 refine wE rfl (run_call en25 rfl rfl) (hcp (Two.live (A:=_::_::_::_::_::(LR++LT)) hs)) ?_
 rintro e w ⟨L2,O2,D2,rfl,hPt,hPs,hq1⟩
 refine⟨_,rfl,?_⟩
 replace hs:=Two.put (A:=_::_::_::_::_::(LR++LT)) (L:=Lt++L) (L':=L2++O2) hs hq1
 refine wZ<|⟨rfl,?_⟩
 refine aM 13 rfl<|aV 14 rfl (fun w hs=>run_extract rfl rfl)<|aV 15 rfl (fun w hs=>run_extract rfl rfl)<|aV 16 rfl (fun w hs=>run_assign)<|aV 17 rfl (fun w hs=>run_assign)<|AL.end (by kernel_rfl) (Step.dropR (L1:=[_,_,_]) hs) (Step.dropR (L1:=[_,_,_]) hs) ?_
 refine cq<|CW.any (A:=fun w=>Step [] [(b11,blk 30 [.int .i64 rn,.int .i64 rd,.int .i64 rb]),(bw,blk 42 (w8C bp br vR)),(vw,blk 42 (w8C vp vr vT))] w0 w) (C:=fun w=>Step [] [(b11,blk 30 [.int .i64 rn,.int .i64 rd,.int .i64 rb]),(bw,blk 42 (w8C bp br vR)),(vw,blk 42 (w8C vp vr vT))] w0 w) 1000000 18 mixedP rfl ?_
 replace hs:=hs.drew
 refine aM 0 rfl<|aV 1 rfl (fun w hs=>run_nilCheck rfl)<|aV 2 rfl (fun w hs=>run_field (o':=1) u42 rfl ty40 rfl rfl rfl)<|aV 3 rfl (fun w hs=>run_load1 ty40 rfl (hs.c1 rfl))<|aM 4 rfl<|aV 5 rfl (fun w hs=>run_nilCheck rfl)<|aV 6 rfl (fun w hs=>run_field (o':=1) u42 rfl ty40 rfl rfl rfl)<|aV 7 rfl (fun w hs=>run_load1 ty40 rfl (hs.c2 rfl))<|aM 8 rfl<|aM 9 rfl<|aV 11 rfl (fun w hs=>run_loadN ty30 rfl rfl hs.a0)<|AL.one 10 (by kernel_rfl) rfl (Step.dropR (L1:=[_,_,_]) hs) (Step.dropR (L1:=[_,_,_]) hs) ?_
 refine wE rfl (run_call en18 rfl rfl) (hroot hs) ?_
 rintro e w ⟨rfl,hq2⟩
 refine⟨_,rfl,?_⟩
 replace hs:=hs.callE hq2
 refine wZ<|⟨rfl,?_⟩
 refine AL.one 12 (by kernel_rfl) rfl (Step.dropR (L1:=[_,_,_]) hs) (Step.dropR (L1:=[_,_,_]) hs) ?_
 refine wE rfl (run_call en26 rfl rfl) (hcr (Two.rlive (A:=_::_::_::_::_::(LR++LT)) hs)) ?_
 rintro e w ⟨R2,P2,D3,rfl,hRt,hRs,hq3⟩
 refine⟨_,rfl,?_⟩
 replace hs:=Two.rput (A:=_::_::_::_::_::(LR++LT)) (R:=Rt++R) (R':=R2++P2) hs hq3
 refine wZ<|⟨rfl,?_⟩
 refine aM 13 rfl<|aV 14 rfl (fun w hs=>run_extract rfl rfl)<|aV 15 rfl (fun w hs=>run_extract rfl rfl)<|aV 16 rfl (fun w hs=>run_assign)<|aV 17 rfl (fun w hs=>run_assign)<|AL.end (by kernel_rfl) (Step.dropR (L1:=[_,_,_]) hs) (Step.dropR (L1:=[_,_,_]) hs) ?_
 have hPt2:PRep vp t2 (D3++(D2++(Dt++D))) L2:=hPt.mono mem_right
 have hPs2:PRep bp s2 (D3++(D2++(Dt++D))) O2:=hPs.mono mem_right
 have hal1:=fun{w:World} h1 h2=>alike8_spec (w0:=w) hPs2 hRs ok2 h1 h2
 have hal2:=fun{w:World} h1 h2=>alike8_spec (w0:=w) hPt2 hRt ok1 h1 h2
 have hct1:=fun{w:World} h1=>counts_abs (w0:=w) hPs2 ok2 h1
 have hct2:=fun{w:World} h1=>counts_abs (w0:=w) hPt2 ok1 h1
 have hg1:=few1.gets
 have hp1:=few1.puts
 have hg2:=few2.gets
 have hp2:=few2.puts
 have ob:=hRs.look ok2.len
 obtain⟨ra,rc,_,hlk⟩:=ob
 have ob:=hRt.look ok1.len
 obtain⟨ta,tc,_,htk⟩:=ob
 refine cq<|CW.quiet mixedP (by kernel_rfl) hs ?_
 refine qm<|qm<|qV (fun w hs=>run_bT (run_eql rfl rfl) (by rfl))<|qm<|qy<|qm<|qy<|qm<|qy<|qV (fun w hs=>run_bT (run_eql rfl rfl) (by rfl))<|qV (fun w hs=>run_pickT rfl)<|qm<|qy<|qm ?_
 refine qy<|qn rfl<|qy<|qF 0 u42 rfl ty39 rfl<|qy<|qV (fun w hs=>run_load1 ty39 rfl (hs.c1 rfl))<|qy<|qm<|qy<|qn rfl<|qy<|qF 1 u42 rfl ty40 rfl<|qy<|qV (fun w hs=>run_load1 ty40 rfl (hs.c1 rfl)) ?_
 refine qy<|QL.enter rfl (fun w=>run_call en22 rfl rfl) (fun w hs=>hal1 (Two.l2 (A:=_::_::_::_::_::(LR++LT)) hs) (Two.r2 (A:=_::_::_::_::_::(LR++LT)) hs)) ?_
 refine qV (fun w hs=>run_pickT rfl)<|qm<|qy<|qm<|qy<|qn rfl<|qy<|qF 0 u42 rfl ty39 rfl<|qy<|qV (fun w hs=>run_load1 ty39 rfl (hs.c2 rfl))<|qy<|qm<|qy<|qn rfl ?_
 refine qy<|qF 1 u42 rfl ty40 rfl<|qy<|qV (fun w hs=>run_load1 ty40 rfl (hs.c2 rfl))<|qy<|QL.enter rfl (fun w=>run_call en22 rfl rfl) (fun w hs=>hal2 (Two.l1 (A:=_::_::_::_::_::(LR++LT)) hs) (Two.r1 (A:=_::_::_::_::_::(LR++LT)) hs)) ?_
 refine qV (fun w hs=>run_pickT rfl)<|qm<|qy<|qm<|qy<|qn rfl<|qy<|qF 0 u42 rfl ty39 rfl<|qy<|qV (fun w hs=>run_load1 ty39 rfl (hs.c1 rfl))<|qy<|QL.enter rfl (fun w=>run_call en21 rfl rfl) (fun w hs=>hct1 (Two.l2 (A:=_::_::_::_::_::(LR++LT)) hs)) ?_
 refine qy<|qm<|qy<|qn rfl<|qy<|qF 1 u42 rfl ty40 rfl<|qy<|qV (fun w hs=>run_load1 ty40 rfl (hs.c1 rfl))<|qy<|qn rfl<|qy<|qF 4 u54 rfl ty50 rfl<|qy<|qV (fun w hs=>run_loadN ty50 rfl rfl ((hlk (fun p hp=>hs.has p (by simp[hp]))).1.drop 4)) ?_
 refine qy<|qV (fun w hs=>run_eqCnt (by omega) (by omega) rfl rfl)<|qV (fun w hs=>run_pickT rfl)<|qm<|qy<|qm<|qy<|qn rfl<|qy<|qF 0 u42 rfl ty39 rfl<|qy<|qV (fun w hs=>run_load1 ty39 rfl (hs.c2 rfl))<|qy<|QL.enter rfl (fun w=>run_call en21 rfl rfl) (fun w hs=>hct2 (Two.l1 (A:=_::_::_::_::_::(LR++LT)) hs)) ?_
 refine qy<|qm<|qy<|qn rfl<|qy<|qF 1 u42 rfl ty40 rfl<|qy<|qV (fun w hs=>run_load1 ty40 rfl (hs.c2 rfl))<|qy<|qn rfl<|qy<|qF 4 u54 rfl ty50 rfl<|qy<|qV (fun w hs=>run_loadN ty50 rfl rfl ((htk (fun p hp=>hs.has p (by simp[hp]))).1.drop 4)) ?_
 refine qy<|qV (fun w hs=>run_eqCnt (by omega) (by omega) rfl rfl)<|qV (fun w hs=>run_pickT rfl)<|qV (fun w hs=>run_assign)<|QL.nil (fun w hs=>?_)
 refine CW.ret ?_
 refine fin_ret1 rfl ?_
 exact⟨rfl,hs.clear⟩
end
end Go.Gx
