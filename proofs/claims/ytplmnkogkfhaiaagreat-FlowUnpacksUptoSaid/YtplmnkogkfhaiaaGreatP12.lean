/- The document's Fits: walked. The document's Unpack: walked. FlowUnpacks, walked. An argument of bytes, opened. -/
import Derived.Test.YtplmnkogkfhaiaaGreatP11
import Derived.Test.YtplmnkogkfhaiaaGreatP1
set_option linter.unusedVariables false
set_option linter.unusedSimpArgs false
set_option maxRecDepth 100000
namespace Go.Gx
open Go.Proofs List
attribute [local irreducible] shaL cutD frontL
section
variable{v:Value}{B:BL}{k kk:Nat}{gf of:List (List UInt8)}{D:List (Nat×Obj)}{w0:World}
set_option maxHeartbeats 8000000 in
theorem fitsR_spec (hk1:1≤k) (hk:k≤32) (hvB:∃Lv,OwnSl 76 1 v B.length (cellsB B) Lv∧∀p∈Lv,p∈D) (hB:BOk D B) (hne:0<B.length) (hn:B.length≤65536) (hsum:((B.map (·.2)).map List.length).sum≤4194304)
  (hG:(digsK k (B.map (·.2))).Nodup→(runs (fitS k (B.map (·.2))) rmG [rootS (lastK k (B.map (·.2)))] ws0).1=0→Goes (partsM (fitS k (B.map (·.2))) (runs (fitS k (B.map (·.2))) rmG [rootS (lastK k (B.map (·.2)))] ws0).2.m) [lastK k (B.map (·.2))] [] [] gf of kk) (hw:Lives D w0) :
  CP 98 #[.int .i64 (k:Nat),v] w0 (Ret0 (.bool (fitB k (B.map (·.2)) of)) w0):=by
 have ob:∃l,B.map (·.2)=l:=⟨_,rfl⟩
 obtain⟨l,hl⟩:=ob
 rw[hl] at hsum hG⊢
 have hll:l.length=B.length:=by rw[←hl,length_map]
 have hs:Step (List.map (·.1) D) D w0 w0:=hw
 obtain⟨Lb,hvb,hLb⟩:=hvB
 have hfin:∀{Y:List (Nat×Obj)}{w:World},Step (List.map (·.1) D) (Y++D) w0 w→Step [] [] w0 w:=fun h=>(Step.fin3 (A:=[]) (O:=[]) hw h).clear
 have hvs:∀{Y:List (Nat×Obj)}{w:World},Step (List.map (·.1) D) Y w0 w→(∀p∈D,p∈Y)→Sl w 1 v B.length (B.map fun t=>t.1):=fun h hm=>hvb.slW fun p hp=>h.has p (hm p (hLb p hp))
 have ob:∃tl,B[B.length - 1]?=some tl:=⟨_,getElem?_eq_getElem (by omega)⟩
 obtain⟨tl,htl⟩:=ob
 have ob:=sl_at1 (c:=fun t:Value×List UInt8=>t.1) (hvs hs fun p hp=>hp) htl
 obtain⟨bb,bo,bc,hbe,_⟩:=ob
 subst hbe
 refine calls (n:=81) Tryz.func98 rfl rfl rfl ?_
 refine sr<|wA<|wZ<|sr<|wm<|wE rfl (run_call en58 rfl rfl) (rnew_abs hk1 hk (c:=67108864) (by decide) _) ?_
 rintro e w ⟨br,R0,rfl,hP0,hq⟩
 refine⟨_,rfl,?_⟩
 replace hs:=Step.call0 hs hq
 refine wm<|wx rfl rfl<|wx rfl rfl<|wA<|wA<|wZ<|sr<|wA<|wZ<|CW.seqM (fun f w=>∃(vO:Value) (LO Lc Dc:List (Nat×Obj)),(digsK k l).Nodup∧PutOk k l (fitS k l)∧OwnSl 44 32 vO (digsK k l).length (digsL (digsK k l)) LO∧RRep br (fitS k l) (Dc++D) Lc∧Step (List.map (·.1) D) (LO++(Lc++(Dc++D))) w0 w∧Holds f [(0,.int .i64 (k:Nat)),(1,.slice (some ⟨bb,bo,none⟩) B.length bc),(5,.pointer (some ⟨br,0,none⟩)),(7,vO)]) ?_ ?_
 ·refine sr<|wA<|wZ<|cB<|CW.loop (fun z f w'=>∃(i:Nat) (vO:Value) (LO Lc Dc:List (Nat×Obj)),i≤B.length∧z=B.length - i∧(digsK k (l.take i)).Nodup∧PutOk k (l.take i) (fitS k (l.take i))∧OwnSl 44 32 vO (digsK k (l.take i)).length (digsL (digsK k (l.take i))) LO∧RRep br (fitS k (l.take i)) (Dc++D) Lc∧Step (List.map (·.1) D) (LO++(Lc++(Dc++D))) w0 w'∧Holds f [(0,.int .i64 (k:Nat)),(1,.slice (some ⟨bb,bo,none⟩) B.length bc),(5,.pointer (some ⟨br,0,none⟩)),(7,vO),(8,.int .i64 (i:Nat))]) (m:=B.length) ?_ ?_
  ·exact⟨0,_,[],R0,[],Nat.zero_le _,rfl,nodup_nil,PutOk.nil hk1 hk,OwnSl.nil _ _,hP0.mono (fun p hp=>by cases hp),hs,rfl,rfl,rfl,rfl,rfl,trivial⟩
  clear hs hP0
  rintro z f w ⟨i,vO,LO,Lc,Dc,hil,rfl,hnd,hPO,hvO,hP,hs,hf⟩
  have ob:=hf.chain
  obtain⟨g,rfl⟩:=ob
  by_cases hlt:i<B.length
  ·have ob:∃t,B[i]?=some t:=⟨_,getElem?_eq_getElem hlt⟩
   obtain⟨t,ht⟩:=ob
   have ob:=hB t (mem_of_getElem? ht)
   obtain⟨⟨LD,hvt,hLD⟩,htl1⟩:=ob
   have ob:∃x,t.2=x:=⟨_,rfl⟩
   obtain⟨x,hxe⟩:=ob
   rw[hxe] at hvt htl1
   have hx:l[i]?=some x:=by rw[←hl,getElem?_map,ht,←hxe];rfl
   have htk:l.take (i+1)=l.take i++[x]:=by rw[take_add_one,hx];rfl
   have ob:∃d,frontL x k=d:=⟨_,rfl⟩
   obtain⟨d,hd⟩:=ob
   have hd32:d.length=32:=by rw[←hd];exact frontL_len hk
   have hdl:(u8s d).length=32:=by rw[u8s,length_map,hd32]
   have ob:=hvt.form
   obtain⟨ta,tc,hte⟩:=ob
   have hcell:∀{Y:List (Nat×Obj)}{w:World},Step (List.map (·.1) D) Y w0 w→(∀p∈D,p∈Y)→w.cell? ⟨bb,bo+i*1,none⟩=some (.slice ta x.length tc):=fun h hm=>by
    have ob:=sl_at1 (c:=fun t:Value×List UInt8=>t.1) (hvs h hm) ht
    obtain⟨b2,o2,c2,he,hc⟩:=ob
    cases he
    rw[hc,hte]
   have hHt:Held (Dc++D) (.slice ta x.length tc) x:=⟨LD,hte▸hvt,fun p hp=>mem_append_right _ (hLD p hp)⟩
   have hdig:=fun{w1:World}{Y:List (Nat×Obj)} (h:Step (List.map (·.1) D) (Y++(Dc++D)) w0 w1)=>ofR_spec (k:=k) w1 (hHt.sl fun p hp=>h.has p (mem_append_right _ hp)) (by omega) hk1 hk
   have hdn:(digsK k (l.take i)).length=i:=by rw[digsK_len,length_take];omega
   have hhas:=fun{w1:World}{Y:List (Nat×Obj)} (h:Step (List.map (·.1) D) (LO++Y) w0 w1)=>hasR_spec (w0:=w1) (d:=d) (Dgs.own hvO (fun p hp=>h.has p (mem_append_left _ hp)) (digsK_32 hk) (by omega)) hd32
   rw[hd] at hdig
   refine cq<|sr<|wm<|wm<|wV (run_lenSl u24 rfl)<|wV (run_bT (run_lss rfl rfl) (by omega))<|wZ<|CW.cond rfl (fun h=>?_) (fun h=>?_)
   ·refine ck<|cq<|cB<|sr<|wm<|wm<|wm<|wV (run_ixSlN u24 ty76 rfl rfl (by omega))<|wl ty76 rfl (hcell hs (fun p hp=>by simp[hp]))<|wE rfl (run_call en61 rfl rfl) (hdig (Y:=LO++Lc) (by rw[append_assoc];exact hs)) ?_
    rintro e w ⟨rfl,hq⟩
    refine⟨_,rfl,?_⟩
    replace hs:=hs.callE hq
    refine WL.alloc ty44 rfl hs (fun b9 w hs=>?_)
    refine WL.storeAll ty44 rfl rfl ((hdl)) ((Cells1.u8s _)) hs (by rfl) (fun w hs=>?_)
    refine wZ ?_
    by_cases hin:d∈digsK k (l.take i)
    ·rw[decide_eq_true hin] at hhas
     refine cq<|sr<|wm<|wV (run_loadN ty44 rfl hdl hs.a0)<|wE rfl (run_call en66 rfl rfl) (hhas hs.tail) ?_
     rintro e w ⟨rfl,hq⟩
     refine⟨_,rfl,?_⟩
     replace hs:=hs.callE hq
     refine wZ<|CW.cond rfl (fun h=>?_) (fun h=>?_)
     ·refine sr<|wA<|wZ<|CW.ret ?_
      refine fin_ret1 rfl ?_
      rw[fitB_dup (dup_take hx (by rw[hd];exact hin))]
      exact⟨rfl,hfin (Y:=LO++(Lc++Dc)) (by rw[append_assoc,append_assoc];exact hs.tail)⟩
     ·cases h
    ·rw[decide_eq_false hin] at hhas
     have hnd2:(digsK k (l.take (i+1))).Nodup:=by
      rw[htk,digsK_app,hd,nodup_snoc]
      exact⟨hnd,hin⟩
     have hadd:=hPO.add (x:=x) (by rw[hd];exact hin) htl1 (by
      rw[←htk]
      have:=sum_take (l:=l) (i+1)
      omega)
     have hput:=fun{w1:World} (h:Lives (Lc++(Dc++D)) w1)=>rput_abs (w0:=w1) (y:=x) hP hPO.ok hPO.few (by rw[length_take];omega) h (hHt.sl fun p hp=>h.has p (mem_append_right _ hp)) (.inr (Own.outside (A:=[]) (L:=Lc) (D:=Dc++D) h hHt)) (by omega)
     obtain⟨a1,a2,hPO2⟩:=hadd
     rw[hd] at a1
     simp only[a1,a2] at hput
     have hfs:((fitS k (l.take i)).put x).2.2=fitS k (l.take (i+1)):=by rw[htk,fitS,fitS,putAll_app]
     rw[hfs,←htk] at hPO2
     rw[hfs] at hput
     refine cq<|sr<|wm<|wV (run_loadN ty44 rfl hdl hs.a0)<|wE rfl (run_call en66 rfl rfl) (hhas hs.tail) ?_
     rintro e w ⟨rfl,hq⟩
     refine⟨_,rfl,?_⟩
     replace hs:=hs.callE hq
     refine wZ<|CW.cond rfl (fun h=>?_) (fun h=>?_)
     ·cases h
     refine ck<|sr<|wm<|wV (run_loadN ty44 rfl hdl hs.a0)<|WL.buildSlice (cs:=u8s d) u35 ty44 rfl (by decide) rfl (filled1 hdl rfl) rfl hs (fun b36 w hs=>?_)
     have hsl36:Sl w 32 (.slice (some ⟨b36,0,none⟩) 1 1) 1 (u8s d):=.own1 hs (by rw[hdl])
     replace hs:=Step.in2 (Z:=LO) hs
     refine WL.append u35 u35 ty44 rfl (by decide) rfl rfl (hvO) (hs) (hsl36) (Cells1.u8s _) (by omega) rfl (fun v37 Lv37 w hv37 hs=>?_)
     replace hs:=(Step.out2b hs).tail
     refine wA<|wZ<|cr<|wm<|wm<|wm<|wV (run_ixSlN u24 ty76 rfl rfl (by omega))<|wl ty76 rfl (hcell hs (fun p hp=>by simp[hp]))<|wE rfl (run_call en74 rfl rfl) (hput (Lives.mk (Step.dropL (L1:=Lv37) hs))) ?_
     rintro e w ⟨L2,D2,rfl,hP2,hq⟩
     refine⟨_,rfl,?_⟩
     replace hs:=Own.put (A:=Lv37) (L:=Lc) hs hq
     refine wZ<|cr<|wm<|wV (run_add (c:=((i+1:Nat):Int)) rfl rfl (by omega) (by omega))<|wA<|wZ<|(show _∧_ from⟨rfl,_,?_,i+1,v37,Lv37,L2,D2++Dc,hlt,rfl,hnd2,hPO2,?_,?_,?_,rfl,rfl,rfl,rfl,rfl,trivial⟩)
     ·omega
     ·rw[htk,digsK_app,hd,length_append,digsL_snoc]
      exact hv37
     ·rw[append_assoc];exact hP2
     ·rw[append_assoc];exact hs
   ·cases h
  ·obtain rfl:i=B.length:=by omega
   have htk:l.take B.length=l:=by rw[←hll,take_length]
   rw[htk] at hnd hPO hvO hP
   refine cq<|sr<|wm<|wm<|wV (run_lenSl u24 rfl)<|wV (run_bF (run_lss rfl rfl) (by omega))<|wZ<|CW.cond rfl (fun h=>?_) (fun h=>?_)
   ·cases h
   refine CW.exit ?_
   exact⟨rfl,vO,LO,Lc,Dc,hnd,hPO,hvO,hP,hs,rfl,rfl,rfl,rfl,trivial⟩
 clear hs hP0
 rintro f w ⟨vO,LO,Lc,Dc,hnd,hPO,hvO,hP,hs,hf⟩
 have ob:=hf.chain
 obtain⟨g,rfl⟩:=ob
 have hlg:=last_get (l:=l) (by omega)
 rw[hll] at hlg
 have ob:∃x,l.getLastD []=x:=⟨_,rfl⟩
 obtain⟨x,hxe⟩:=ob
 have ob:∃d,lastK k l=d:=⟨_,rfl⟩
 obtain⟨d,hd⟩:=ob
 have hdx:frontL x k=d:=by rw[←hd,←hxe];rfl
 rw[hxe] at hlg
 have hdg:=digsK_get (k:=k) hlg
 rw[hdx] at hdg
 have hd32:d.length=32:=by rw[←hdx];exact frontL_len hk
 have hdl:(u8s d).length=32:=by rw[u8s,length_map,hd32]
 have hdn:(digsK k l).length=B.length:=by rw[digsK_len,hll]
 have hvO0:=hvO
 rw[hdn] at hvO
 have ob:=hvO.some1 (by omega)
 obtain⟨bu,cu,more,hu1,hu2,hu3⟩:=ob
 subst hu1
 have hbad:=fun h=>fitB_bad (k:=k) (l:=l) (of:=of) h
 have hfok:=fun h=>fitB_ok (k:=k) (l:=l) (of:=of) hnd h
 have hG:=hG hnd
 rw[hd] at hG hbad hfok
 have hwk:=fun{w1:World} h=>walkR_spec (w0:=w1) (rn:=65536) (rd:=32) (rb:=67108864) hP hPO.ok hPO.few (by omega) hd32 rmG_ok h
 have hmet:=fun{t:WS} h=>runs_met (s:=fitS k l) (rm:=rmOf 65536 32 67108864) (t:=t) hd32 h
 have hgd:=standP_good (s:=fitS k l) (rm:=rmOf 65536 32 67108864) rmG_ok 34 (x:=rootS d) (t:=ws0) (ws0_good.mono (by omega))
 have hM32:=root_M32 (s:=fitS k l) (rm:=rmOf 65536 32 67108864) hd32
 rw[←runs_root] at hgd hM32
 rw[show rmG=rmOf 65536 32 67108864 from rfl] at hG hbad hfok
 have ob:∃r,runs (fitS k l) (rmOf 65536 32 67108864) [rootS d] ws0=r:=⟨_,rfl⟩
 obtain⟨r,hr⟩:=ob
 rw[hr] at hwk hG hgd hbad hfok hM32
 have hat:∀{Y:List (Nat×Obj)}{w:World},Step (List.map (·.1) D) Y w0 w→(∀p∈LO,p∈Y)→At w bu (0+(B.length - 1)*32) (u8s d):=fun h hm=>digsL_at (digsK_32 hk) (At.of_blk (h.has (bu,blk 44 (digsL (digsK k l)++more)) (hm _ (by rw[hu2];exact mem_singleton.2 rfl)))).left hdg
 by_cases he:r.1≠0
 ·rw[hbad he]
  rw[if_neg he] at hwk
  refine sr<|wm<|wm<|wm<|wV (run_lenSl u35 rfl)<|wV (run_sub (c:=((B.length - 1:Nat):Int)) rfl rfl (by omega) (by omega))<|wV (run_ixSlN u35 ty44 rfl rfl (by omega))<|wV (run_loadN ty44 rfl hdl (hat hs (fun p hp=>mem_append_left _ hp)))<|wV (run_build rfl (bld_room _ _ _ _))<|wE rfl (run_call en65 rfl rfl) (hwk (Lives.mk (Step.dropL (L1:=LO) hs))) ?_
  rintro e w ⟨vm,Lm,R1,D1,rfl,hR1,hvm,hq⟩
  refine⟨_,rfl,?_⟩
  replace hs:=Own.put (A:=LO) (L:=Lc) hs hq
  refine wm<|wx rfl rfl<|wx rfl rfl<|wA<|wA<|wZ<|cq<|sr<|wm<|wV (run_bT (run_neq rfl rfl) (by exact he))<|wZ<|CW.cond rfl (fun h=>?_) (fun h=>?_)
  ·refine sr<|wA<|wZ<|CW.ret ?_
   refine fin_ret1 rfl ?_
   exact⟨rfl,hfin (Y:=LO++(R1++(Lm++(D1++Dc)))) (by simpa only[append_assoc] using hs)⟩
  ·cases h
 have he0:r.1=0:=by simpa using he
 have hmet:=hmet (t:=r.2) (by rw[hr,←he0])
 have hgd:=hgd he0
 have hM32:=hM32 he0
 have hml:r.2.m.length≤65536:=Nat.le_trans hgd.m hgd.n
 have ob:=hmet.of_le (hG he0)
 obtain⟨hol,hofU⟩:=ob
 have hof32:∀y∈of,y.length=32:=fun y hy=>hmet.len y (hofU y hy)
 rw[if_pos he0] at hwk
 rw[hfok he0]
 refine sr<|wm<|wm<|wm<|wV (run_lenSl u35 rfl)<|wV (run_sub (c:=((B.length - 1:Nat):Int)) rfl rfl (by omega) (by omega))<|wV (run_ixSlN u35 ty44 rfl rfl (by omega))<|wV (run_loadN ty44 rfl hdl (hat hs (fun p hp=>mem_append_left _ hp)))<|wV (run_build rfl (bld_room _ _ _ _))<|wE rfl (run_call en65 rfl rfl) (hwk (Lives.mk (Step.dropL (L1:=LO) hs))) ?_
 rintro e w ⟨vm,Lm,R1,D1,rfl,hR1,hvm,hq⟩
 refine⟨_,rfl,?_⟩
 replace hs:=Own.put (A:=LO) (L:=Lc) hs hq
 refine wm<|wx rfl rfl<|wx rfl rfl<|wA<|wA<|wZ<|cq<|sr<|wm<|wV (run_bF (run_neq rfl rfl) (by exact he))<|wZ<|CW.cond rfl (fun h=>?_) (fun h=>?_)
 ·cases h
 replace hs:Step (List.map (·.1) D) (LO++(R1++(Lm++(D1++(Dc++D))))) w0 w:=by simpa only[append_assoc] using hs
 have hR2:RRep br ((fitS k l).gotN r.2.g) (Lm++(D1++(Dc++D))) R1:=hR1.mono mem_right
 refine ck<|sr<|wm<|wm<|wE rfl (run_call en71 rfl rfl) (behindR_spec hR2 (hPO.ok.gotN _) (⟨hmet.head,hmet.got,hmet.len,hmet.sub⟩:Met ((fitS k l).gotN r.2.g) d r.2.m) hvm (fun p hp=>mem_append_left _ hp) hml hM32 (partsM_len _ _) (hG he0) (Lives.mk (Step.dropL (L1:=LO) hs))) ?_
 rintro e w ⟨vo,Lo,rfl,hvo,hq⟩
 refine⟨_,rfl,?_⟩
 replace hs:=Step.call0 hs hq
 refine wA<|wZ ?_
 have hu:Dgs w vo of:=Dgs.own hvo (fun p hp=>hs.has p (mem_append_left _ hp)) hof32 (by omega)
 have hv:Dgs w (.slice (some ⟨bu,0,none⟩) B.length cu) (digsK k l):=Dgs.own hvO0 (fun p hp=>hs.has p (by simp[hp])) (digsK_32 hk) (by omega)
 have ob:=hvo.form
 obtain⟨oa,oc,rfl⟩:=ob
 have hfin2:∀{w:World},Step (List.map (·.1) D) (Lo++(LO++(R1++(Lm++(D1++(Dc++D)))))) w0 w→Step [] [] w0 w:=fun h=>hfin (Y:=Lo++(LO++(R1++(Lm++(D1++Dc))))) (by simpa only[append_assoc] using h)
 have hs1:=hfin2 hs
 clear hs
 have hs:=Step.refl w
 have ob:∃res,decide (of=digsK k l)=res:=⟨_,rfl⟩
 obtain⟨res,hres⟩:=ob
 rw[hres]
 by_cases hlen:of.length=B.length
 ·refine cq<|sr<|wm<|wV (run_lenSl u35 rfl)<|wm<|wV (run_lenSl u35 rfl)<|wV (run_bF (run_neq rfl rfl) (by omega))<|wZ<|CW.cond rfl (fun h=>?_) (fun h=>?_)
  ·cases h
  refine ck<|cq<|sr<|wA<|wZ<|cB<|CW.loop (fun z f w'=>∃i,i≤of.length∧z=of.length - i∧of.take i=(digsK k l).take i∧Step [] [] w w'∧Holds f [(7,.slice (some ⟨bu,0,none⟩) B.length cu),(12,.slice oa of.length oc),(13,.int .i64 (i:Nat))]) (m:=of.length) ?_ ?_
  ·exact⟨0,Nat.zero_le _,rfl,by simp,hs,rfl,rfl,rfl,trivial⟩
  ·clear hs
   rintro z f w2 ⟨i,hi,rfl,heq,hs,hf⟩
   have ob:=hf.chain
   obtain⟨g,rfl⟩:=ob
   by_cases hlt:i<of.length
   ·have ob:∃e,of[i]?=some e:=⟨_,getElem?_eq_getElem hlt⟩
    obtain⟨e,he⟩:=ob
    have ob:∃e,(digsK k l)[i]?=some e:=⟨_,getElem?_eq_getElem (by omega)⟩
    obtain⟨e2,he2⟩:=ob
    have ob:=hu.at he
    obtain⟨b,off,c',hb,hat⟩:=ob
    cases hb
    have ob:=hv.at he2
    obtain⟨b2,off2,c2',hb2,hat2⟩:=ob
    rw[hdn] at hb2
    cases hb2
    have hel:=hu.len e (mem_of_getElem? he)
    have hel2:(u8s e).length=32:=by rw[u8s,length_map,hel]
    have hem:=hv.len e2 (mem_of_getElem? he2)
    have hem2:(u8s e2).length=32:=by rw[u8s,length_map,hem]
    refine cq<|sr<|wm<|wm<|wV (run_lenSl u35 rfl)<|wV (run_bT (run_lss rfl rfl) (by omega))<|wZ<|CW.cond rfl (fun h=>?_) (fun h=>?_)
    ·by_cases hed:e=e2
     ·refine ck<|cq<|cB<|cq<|CW.quiet mixedP (by kernel_rfl) hs ?_
      refine qm<|qm<|qV (fun w hs=>run_ixSlN u35 ty44 rfl rfl (by omega))<|qV (fun w hs=>run_loadN ty44 rfl hel2 (hat.step hs.clear (by simp)))<|qm<|qm<|qV (fun w hs=>run_ixSlN u35 ty44 rfl rfl (by omega))<|qV (fun w hs=>run_loadN ty44 rfl hem2 (hat2.step hs.clear (by simp)))<|qV (fun w hs=>run_bF (run_neDig hel hem rfl rfl) (fun h=>h hed))<|QL.nil (fun w hs=>?_)
      refine CW.cond rfl (fun h=>?_) (fun h=>?_)
      ·cases h
      refine ck<|cr<|wm<|wV (run_add (c:=((i+1:Nat):Int)) rfl rfl (by omega) (by omega))<|wA<|wZ<|(show _∧_ from⟨rfl,_,?_,i+1,hlt,rfl,?_,hs,rfl,rfl,rfl,trivial⟩)
      ·omega
      ·rw[take_add_one,take_add_one,he,he2,heq,hed]
     ·refine ck<|cq<|cB<|cq<|CW.quiet mixedP (by kernel_rfl) hs ?_
      refine qm<|qm<|qV (fun w hs=>run_ixSlN u35 ty44 rfl rfl (by omega))<|qV (fun w hs=>run_loadN ty44 rfl hel2 (hat.step hs.clear (by simp)))<|qm<|qm<|qV (fun w hs=>run_ixSlN u35 ty44 rfl rfl (by omega))<|qV (fun w hs=>run_loadN ty44 rfl hem2 (hat2.step hs.clear (by simp)))<|qV (fun w hs=>run_bT (run_neDig hel hem rfl rfl) hed)<|QL.nil (fun w hs=>?_)
      refine CW.cond rfl (fun h=>?_) (fun h=>?_)
      ·refine sr<|wA<|wZ<|CW.ret ?_
       refine fin_ret1 rfl ?_
       exact⟨congrArg (fun b=>Ending.returned (.bool b)) (by rw[←hres];symm;rw[decide_eq_false_iff_not];intro h;rw[h,he2] at he;exact hed (Option.some.inj he).symm),(Step.call0 hs1 hs).clear⟩
      ·cases h
    ·cases h
   ·obtain rfl:i=of.length:=by omega
    have hlm:of=digsK k l:=by
     rw[take_length,hlen,←hdn,take_length] at heq;exact heq
    refine cq<|sr<|wm<|wm<|wV (run_lenSl u35 rfl)<|wV (run_bF (run_lss rfl rfl) (by omega))<|wZ<|CW.cond rfl (fun h=>?_) (fun h=>?_)
    ·cases h
    refine CW.exit<|sr<|wA<|wZ<|CW.ret ?_
    refine fin_ret1 rfl ?_
    exact⟨congrArg (fun b=>Ending.returned (.bool b)) (by rw[←hres];simp[hlm]),(Step.call0 hs1 hs).clear⟩
 ·refine cq<|sr<|wm<|wV (run_lenSl u35 rfl)<|wm<|wV (run_lenSl u35 rfl)<|wV (run_bT (run_neq rfl rfl) (by omega))<|wZ<|CW.cond rfl (fun h=>?_) (fun h=>?_)
  ·refine sr<|wA<|wZ<|CW.ret ?_
   refine fin_ret1 rfl ?_
   exact⟨congrArg (fun b=>Ending.returned (.bool b)) (by rw[←hres];symm;rw[decide_eq_false_iff_not];intro h;exact hlen (by rw[h,hdn])),(Step.call0 hs1 hs).clear⟩
  ·cases h
end
theorem put_d{t:AS}{y:List UInt8} (h:(t.put y).2.1=0):(t.put y).1=frontL y t.k:=by
 unfold AS.put at h⊢
 simp only at h⊢
 split at h
 ·cases h
 ·rename_i h1
  rw[if_neg h1]
  have hgo:∀{r:List UInt8×Nat×AS},r=(match ({ t with puts:=t.puts+1 }:AS).lay (frontL y t.k) y with | some s2=>(frontL y t.k,0,s2) | none=>(zD,43,{ t with puts:=t.puts+1 }))→r.2.1=0→r.1=frontL y t.k:=fun {r} hr h0=>by
   cases hl:({ t with puts:=t.puts+1 }:AS).lay (frontL y t.k) y with
   | none=>rw[hl] at hr;rw[hr] at h0;cases h0
   | some s2=>rw[hl] at hr;rw[hr]
  cases hf:findX (frontL y t.k) t.X with
  | none=>rw[hf] at h;exact hgo rfl h
  | some b=>
   rw[hf] at h
   simp only at h⊢
   split at h
   ·rename_i h2;rw[if_pos h2]
   ·rename_i h2
    rw[if_neg h2]
    split at h
    ·cases h
    ·rename_i h3;rw[if_neg h3];exact hgo rfl h
theorem upE_ok{k:Nat}{bs:List UInt8} (h:upE k bs=0):¬4194304<bs.length∧(upP k bs).1=0:=by
 unfold upE at h
 split at h
 ·cases h
 ·exact⟨by assumption,h⟩
theorem unpR_bad2{s:AS}{bs:List UInt8}{of:List (List UInt8)} (h:upE s.k bs≠0):unpR s bs of=(zD,upE s.k bs,s):=by
 by_cases hl:4194304<bs.length
 ·rw[unpR_long hl,upE,if_pos hl]
 ·have he:upE s.k bs=(upP s.k bs).1:=if_neg hl
  rw[he] at h⊢
  exact unpR_bad hl h
theorem unpR_not2{s:AS}{bs:List UInt8}{of:List (List UInt8)} (h:upE s.k bs=0) (h3:fitB s.k (upP s.k bs).2 of=false):unpR s bs of=(zD,81,s):=unpR_not (upE_ok h).1 (upE_ok h).2 h3
theorem unpR_go2{s:AS}{bs:List UInt8}{of:List (List UInt8)} (h:upE s.k bs=0) (h3:fitB s.k (upP s.k bs).2 of=true):unpR s bs of=(if (putRun s (upP s.k bs).2).1=0 then lastK s.k (upP s.k bs).2 else zD,putRun s (upP s.k bs).2):=unpR_go (upE_ok h).1 (upE_ok h).2 h3
section
variable{br N kk:Nat}{s:AS}{D R:List (Nat×Obj)}{v:Value}{bs:List UInt8}{w0:World}{gf of:List (List UInt8)}
set_option maxHeartbeats 8000000 in
theorem unpackR_spec (hR:RRep br s D R) (ok:s.Ok) (hfew:s.Few N) (hN:N<1000000000) (hv:∀{w:World}{Y:List (Nat×Obj)},Step (List.map (·.1) (R++D)) Y w0 w→Sl w 1 v bs.length (u8s bs)) (hroom:Room v) (hlen:bs.length≤9223372036854775807) (hG:GoF s.k (upP s.k bs).2 gf of kk) (hw:Lives (R++D) w0) :
  CP 43 #[.pointer (some ⟨br,0,none⟩),v] w0 fun e w'=>∃R' D',e=.returned (.tuple #[.agg (u8s (unpR s bs of).1).toArray,.int .i64 (unpR s bs of).2.1])∧RRep br (unpR s bs of).2.2 (D'++D) R'∧Step (R.map (·.1)) (R'++D') w0 w':=by
 have hk1:=ok.k1
 have hk2:=ok.k2
 have hs:Step (List.map (·.1) (R++D)) (R++D) w0 w0:=hw
 have hzl:(u8s zD).length=32:=rfl
 have ob:=hR.look ok.len
 obtain⟨ra,rc,_,hlk⟩:=ob
 have hbl:=fun{w1:World}{Y:List (Nat×Obj)} (h:Step (List.map (·.1) (R++D)) Y w0 w1)=>readBR_spec w1 hk2 (hv h) hroom hlen
 have hbad:=fun h=>unpR_bad2 (s:=s) (bs:=bs) (of:=of) h
 have hnot:=fun h=>unpR_not2 (s:=s) (bs:=bs) (of:=of) h
 have hgo:=fun h=>unpR_go2 (s:=s) (bs:=bs) (of:=of) h
 have hupo:=fun h=>upP_ok (k:=s.k) (bs:=bs) (upE_ok h).2
 unfold RdRes at hbl
 have ob:∃ue,upE s.k bs=ue:=⟨_,rfl⟩
 obtain⟨ue,hue⟩:=ob
 have ob:∃l,(upP s.k bs).2=l:=⟨_,rfl⟩
 obtain⟨l,hl⟩:=ob
 simp only[hue,hl] at hbl hbad hnot hgo hupo hG
 refine calls (n:=55) Tryz.func43 rfl rfl rfl ?_
 refine sr<|WL.alloc ty44 rfl hs (fun b4 w hs=>?_)
 refine wA<|wZ ?_
 replace hs:Step (List.map (·.1) (R++D)) ((b4,blk 44 (u8s zD))::(R++D)) w0 w:=hs
 refine sr<|wm<|wn rfl<|wF 0 u54 rfl ty3 rfl<|wl ty3 rfl ((hlk (fun p hp=>hs.has p (by simp[hp]))).1.cell (j:=0) rfl)<|wm<|wE rfl (run_call en45 rfl rfl) (hbl hs) ?_
 rintro e w ⟨u,B,Lv,G,rfl,hB,hq⟩
 refine⟨_,rfl,?_⟩
 replace hs:=Step.call0 hs hq
 refine wm<|wx rfl rfl<|wx rfl rfl<|wA<|wA<|wZ ?_
 have ob:∃Z,(Lv++G)++D=Z:=⟨_,rfl⟩
 obtain⟨Z,hZ⟩:=ob
 have hDZ:∀p∈D,p∈Z:=fun p hp=>hZ▸mem_append_right _ hp
 replace hs:Step (List.map (·.1) (R++D)) ((b4,blk 44 (u8s zD))::(R++Z)) w0 w:=by
  rw[←hZ]
  exact hs.perm (by classical exact perm_iff_count.2 fun x=>by simp only[count_append,count_cons];omega)
 have hend:∀{t:AS}{Lc Dc:List (Nat×Obj)}{w:World},RRep br t (Dc++Z) Lc→Step (List.map (·.1) (R++D)) (Lc++(Dc++Z)) w0 w→∃L' D',RRep br t (D'++D) L'∧Step (R.map (·.1)) (L'++D') w0 w:=fun {t Lc Dc w} hP h=>⟨Lc,Dc++(Lv++G),by rw[append_assoc,hZ];exact hP,Step.fin (M:=[]) hw (by show Step (List.map (·.1) (R++D)) (Lc++((Dc++(Lv++G))++D)) w0 w;rw[append_assoc Dc,hZ];exact h)⟩
 by_cases he:ue≠0
 ·rw[hbad he]
  refine cq<|sr<|wm<|wV (run_bT (run_neq rfl rfl) (by exact he))<|wZ<|CW.cond rfl (fun h=>?_) (fun h=>?_)
  ·refine sr<|wV (run_build rfl (bld_dig _))<|wm<|WL.storeAll ty44 rfl rfl ((hzl)) ((Cells1.u8s _)) hs (by rfl) (fun w hs=>?_)
   refine wA<|wZ<|CW.ret ?_
   refine fin_cellTmp rfl rfl (run_loadVarN ty44 hzl hs.a0) ?_
   have ob:=hend (Dc:=[]) (hR.mono hDZ) hs.tail
   obtain⟨L',D',h1,h2⟩:=ob
   exact⟨L',D',rfl,h1,h2⟩
  ·cases h
 have he0:ue=0:=by simpa using he
 have ob:=hB he0
 obtain⟨hvB,hBo,hBl⟩:=ob
 have ob:=hupo he0
 obtain⟨hne,hl6,hsum,hl1⟩:=ob
 have hlong:=(upE_ok (hue.trans he0)).1
 have hll:l.length=B.length:=by rw[←hBl,length_map]
 have hB0:0<B.length:=by rw[←hll];exact length_pos_iff.2 hne
 have hft:=fun{w1:World} (h:Lives (Lv++G) w1)=>fitsR_spec (v:=u) (B:=B) (k:=s.k) (kk:=kk) (gf:=gf) (of:=of) hk1 hk2 ⟨Lv,hvB,fun p hp=>mem_append_left _ hp⟩ (hBo.mono fun p hp=>mem_append_right _ hp) hB0 (by omega) (by rw[hBl];omega) (by rw[hBl];exact hG) h
 rw[hBl] at hft
 have hLG:∀{A:List (Nat×Obj)}{w:World},Step (List.map (·.1) (R++D)) (A++Z) w0 w→Lives (Lv++G) w:=fun h=>Lives.mk (Step.dropR (L2:=D) (Step.dropL (by rw[hZ];exact h)))
 have hvz:∀{A:List (Nat×Obj)}{w:World},Step (List.map (·.1) (R++D)) (A++Z) w0 w→Sl w 1 u B.length (B.map fun t=>t.1):=fun h=>hvB.slW fun p hp=>(hLG h).has p (mem_append_left _ hp)
 have ob:∃tl,B[B.length - 1]?=some tl:=⟨_,getElem?_eq_getElem (by omega)⟩
 obtain⟨tl,htl⟩:=ob
 have ob:=sl_at1 (c:=fun t:Value×List UInt8=>t.1) (hvz (A:=(b4,blk 44 (u8s zD))::R) hs) htl
 obtain⟨bb,bo,bc,hbe,_⟩:=ob
 subst hbe
 by_cases hfit:fitB s.k l of=false
 ·rw[hnot he0 hfit]
  rw[hfit] at hft
  refine cq<|sr<|wm<|wV (run_bF (run_neq rfl rfl) (by exact he))<|wZ<|CW.cond rfl (fun h=>?_) (fun h=>?_)
  ·cases h
  refine ck<|cq<|sr<|wm<|wn rfl<|wF 0 u54 rfl ty3 rfl<|wl ty3 rfl ((hlk (fun p hp=>hs.has p (by simp[hp]))).1.cell (j:=0) rfl)<|wm<|wE rfl (run_call en98 rfl rfl) (hft (hLG (A:=_::R) hs)) ?_
  rintro e w ⟨rfl,hq⟩
  refine⟨_,rfl,?_⟩
  replace hs:=hs.callE hq
  refine wV (run_not rfl)<|wZ<|CW.cond rfl (fun h=>?_) (fun h=>?_)
  ·refine sr<|wV (run_build rfl (bld_dig _))<|WL.storeAll ty44 rfl rfl ((hzl)) ((Cells1.u8s _)) hs (by rfl) (fun w hs=>?_)
   refine wA<|wZ<|CW.ret ?_
   refine fin_cellTmp rfl rfl (run_loadVarN ty44 hzl hs.a0) ?_
   have ob:=hend (Dc:=[]) (hR.mono hDZ) hs.tail
   obtain⟨L',D',h1,h2⟩:=ob
   exact⟨L',D',rfl,h1,h2⟩
  ·cases h
 have hfit:fitB s.k l of=true:=by simpa using hfit
 rw[hgo he0 hfit]
 rw[hfit] at hft
 have ob:∃GR,putRun s l=GR:=⟨_,rfl⟩
 obtain⟨GR,hGR⟩:=ob
 rw[hGR]
 refine cq<|sr<|wm<|wV (run_bF (run_neq rfl rfl) (by exact he))<|wZ<|CW.cond rfl (fun h=>?_) (fun h=>?_)
 ·cases h
 refine ck<|cq<|sr<|wm<|wn rfl<|wF 0 u54 rfl ty3 rfl<|wl ty3 rfl ((hlk (fun p hp=>hs.has p (by simp[hp]))).1.cell (j:=0) rfl)<|wm<|wE rfl (run_call en98 rfl rfl) (hft (hLG (A:=_::R) hs)) ?_
 rintro e w ⟨rfl,hq⟩
 refine⟨_,rfl,?_⟩
 replace hs:=hs.callE hq
 refine wV (run_not rfl)<|wZ<|CW.cond rfl (fun h=>?_) (fun h=>?_)
 ·cases h
 refine ck<|sr<|wV (run_build rfl (bld_dig _))<|WL.alloc ty44 rfl hs (fun b8 w hs=>?_)
 refine WL.storeAll ty44 rfl rfl ((hzl)) ((Cells1.u8s _)) hs (by rfl) (fun w hs=>?_)
 refine wZ<|cq<|sr<|wA<|wZ<|cB<|CW.loop (fun z f w'=>∃(i:Nat) (t:AS) (d:List UInt8) (Lc Dc:List (Nat×Obj)),i≤B.length∧z=B.length - i∧t.Ok∧t.k=s.k∧t.Few (N+i)∧d.length=32∧(∀x,0<i→l[i - 1]?=some x→d=frontL x s.k)∧putRun t (l.drop i)=GR∧RRep br t (Dc++Z) Lc∧Step (List.map (·.1) (R++D)) ((b8,blk 44 (u8s d))::(b4,blk 44 (u8s zD))::(Lc++(Dc++Z))) w0 w'∧Holds f [(0,.pointer (some ⟨br,0,none⟩)),(4,.pointer (some ⟨b4,0,none⟩)),(6,.slice (some ⟨bb,bo,none⟩) B.length bc),(8,.pointer (some ⟨b8,0,none⟩)),(9,.int .i64 (i:Nat))]) (m:=B.length) ?_ ?_
 ·exact⟨0,s,zD,R,[],Nat.zero_le _,rfl,ok,rfl,hfew,rfl,(fun x h=>absurd h (Nat.lt_irrefl 0)),hGR,hR.mono hDZ,hs,rfl,rfl,rfl,rfl,rfl,trivial⟩
 clear hs
 rintro z f w ⟨i,t,d,Lc,Dc,hil,rfl,oki,hki,fewi,hd32,hdi,hGi,hP,hs,hf⟩
 have ob:=hf.chain
 obtain⟨g,rfl⟩:=ob
 have hdl:(u8s d).length=32:=by rw[u8s,length_map,hd32]
 by_cases hlt:i<B.length
 ·have ob:∃y,B[i]?=some y:=⟨_,getElem?_eq_getElem hlt⟩
  obtain⟨y,hy⟩:=ob
  have ob:=hBo y (mem_of_getElem? hy)
  obtain⟨⟨LD,hvt,hLD⟩,htl1⟩:=ob
  have ob:∃x,y.2=x:=⟨_,rfl⟩
  obtain⟨x,hxe⟩:=ob
  rw[hxe] at hvt htl1
  have hx:l[i]?=some x:=by rw[←hBl,getElem?_map,hy,←hxe];rfl
  have hdrop:l.drop i=x::l.drop (i+1):=by
   have ob:=List.getElem?_eq_some_iff.1 hx
   obtain⟨hlt,rfl⟩:=ob
   exact drop_eq_getElem_cons hlt
  rw[hdrop] at hGi
  have ob:=hvt.form
  obtain⟨ta,tc,hte⟩:=ob
  have hcell:∀{A:List (Nat×Obj)}{w:World},Step (List.map (·.1) (R++D)) (A++Z) w0 w→w.cell? ⟨bb,bo+i*1,none⟩=some (.slice ta x.length tc):=fun h=>by
   have ob:=sl_at1 (c:=fun t:Value×List UInt8=>t.1) (hvz h) hy
   obtain⟨b2,o2,c2,he,hc⟩:=ob
   cases he
   rw[hc,hte]
  have hHt:Held (Dc++Z) (.slice ta x.length tc) x:=⟨LD,hte▸hvt,fun p hp=>mem_append_right _ (by rw[←hZ];exact mem_append_left _ (mem_append_right _ (hLD p hp)))⟩
  have hput:=fun{w1:World} (h:Lives (Lc++(Dc++Z)) w1)=>rput_abs (w0:=w1) (y:=x) hP oki fewi (by omega) h (hHt.sl fun p hp=>h.has p (mem_append_right _ hp)) (.inr (Own.outside (A:=[]) (L:=Lc) (D:=Dc++Z) h hHt)) (by omega)
  have hp32:=put_32 oki x
  have ok2:=oki.put x
  have few2:=fewi.put x
  have hk3:=put_k t x
  have hpd:=put_d (t:=t) (y:=x)
  have hbad:=putRun_bad (t:=t) (x:=x) (l:=l.drop (i+1))
  have hgo:=putRun_ok (t:=t) (x:=x) (l:=l.drop (i+1))
  have ob:∃pr,t.put x=pr:=⟨_,rfl⟩
  obtain⟨pr,hpr⟩:=ob
  rw[hpr] at hp32 ok2 few2 hbad hgo hk3 hpd
  simp only[hpr] at hput
  have hpl:(u8s pr.1).length=32:=by rw[u8s,length_map,hp32]
  refine cq<|sr<|wm<|wm<|wV (run_lenSl u24 rfl)<|wV (run_bT (run_lss rfl rfl) (by omega))<|wZ<|CW.cond rfl (fun h=>?_) (fun h=>?_)
  ·refine ck<|cq<|cB<|sr<|wm<|wm<|wm<|wV (run_ixSlN u24 ty76 rfl rfl (by omega))<|wl ty76 rfl (hcell (A:=_::_::(Lc++Dc)) (show Step _ (_::_::((Lc++Dc)++Z)) w0 w from by rw[append_assoc];exact hs))<|wE rfl (run_call en74 rfl rfl) (hput (Lives.mk hs.tail.tail)) ?_
   rintro e w ⟨L2,D2,rfl,hP2,hq⟩
   refine⟨_,rfl,?_⟩
   replace hs:=Own.put (A:=[(b8,blk 44 (u8s d)),(b4,blk 44 (u8s zD))]) (L:=Lc) hs hq
   refine wm<|wx rfl rfl<|wx rfl rfl<|WL.alloc ty44 rfl hs (fun b10 w hs=>?_)
   refine WL.storeAll ty44 rfl rfl ((hpl)) ((Cells1.u8s _)) hs (by rfl) (fun w hs=>?_)
   refine wA<|wZ ?_
   by_cases hpe:pr.2.1≠0
   ·rw[hbad hpe] at hGi
    refine cq<|sr<|wm<|wV (run_bT (run_neq rfl rfl) (by exact fun h=>hpe (Int.ofNat.inj h)))<|wZ<|CW.cond rfl (fun h=>?_) (fun h=>?_)
    ·replace hs:=hs.tail.tail
     refine sr<|wV (run_build rfl (bld_dig _))<|wm<|WL.storeAll ty44 rfl rfl ((hzl)) ((Cells1.u8s _)) hs (by rfl) (fun w hs=>?_)
     refine wA<|wZ<|CW.ret ?_
     refine fin_cellTmp rfl rfl (run_loadVarN ty44 hzl hs.a0) ?_
     have ob:=hend (Dc:=D2++Dc) (by rw[append_assoc];exact hP2) (by rw[append_assoc];exact hs.tail)
     obtain⟨L',D',h1,h2⟩:=ob
     rw[←hGi,if_neg (show ¬(((pr.2.1:Nat):Int)=0) from fun h=>hpe (Int.ofNat.inj h))]
     exact⟨L',D',rfl,h1,h2⟩
    ·cases h
   have hp0:pr.2.1=0:=by simpa using hpe
   rw[hgo hp0] at hGi
   refine cq<|sr<|wm<|wV (run_bF (run_neq rfl rfl) (by exact fun h=>h (congrArg Int.ofNat hp0)))<|wZ<|CW.cond rfl (fun h=>?_) (fun h=>?_)
   ·cases h
   refine ck<|cr<|wV (run_loadN ty44 rfl hpl hs.a0)<|WL.storeAll_1 ty44 rfl rfl ((hpl)) ((Cells1.u8s _)) hs (by assumption) (fun w hs=>?_)
   refine wZ ?_
   replace hs:=hs.tail
   refine cr<|wm<|wV (run_add (c:=((i+1:Nat):Int)) rfl rfl (by omega) (by omega))<|wA<|wZ<|(show _∧_ from⟨rfl,_,?_,i+1,pr.2.2,pr.1,L2,D2++Dc,hlt,rfl,ok2,hk3.trans hki,few2,hp32,?_,hGi,?_,?_,rfl,rfl,rfl,rfl,rfl,trivial⟩)
   ·omega
   ·intro z _ hz
    rw[Nat.add_sub_cancel,hx] at hz
    rw[hpd hp0,hki,Option.some.inj hz]
   ·rw[append_assoc];exact hP2
   ·rw[append_assoc];exact hs
  ·cases h
 ·obtain rfl:i=B.length:=by omega
  rw[←hll,drop_length] at hGi
  obtain rfl:(0,t)=GR:=hGi
  have hlx:lastK s.k l=d:=by
   have h1:=last_get (l:=l) (by omega)
   rw[hll] at h1
   exact(hdi _ hB0 h1).symm
  refine cq<|sr<|wm<|wm<|wV (run_lenSl u24 rfl)<|wV (run_bF (run_lss rfl rfl) (by omega))<|wZ<|CW.cond rfl (fun h=>?_) (fun h=>?_)
  ·cases h
  refine CW.exit<|sr<|wV (run_loadN ty44 rfl hdl hs.a0)<|WL.storeAll_1 ty44 rfl rfl ((hdl)) ((Cells1.u8s _)) hs (by rfl) (fun w hs=>?_)
  refine wA<|wZ<|CW.ret ?_
  refine fin_cellTmp rfl rfl (run_loadVarN ty44 hdl hs.a1) ?_
  have ob:=hend hP hs.tail.tail
  obtain⟨L',D',h1,h2⟩:=ob
  rw[if_pos rfl,hlx]
  exact⟨L',D',rfl,h1,h2⟩
end
end Go.Gx
namespace Go.Gx
open Go.Proofs Go.RowKit List
attribute [local irreducible] shaL cutD frontL
def pads (n:Nat):List Value:=List.replicate n (.int .u8 169)
theorem pads_get{n i:Nat} (h:i<n):(pads n)[i]?=some (.int .u8 169):=by simp[pads,h]
def LendS (s:List UInt8):Obj:=blk 5 (u8s s++pads 67)
theorem lend2_spec{v:Value}{s:List UInt8} (w0:World) (hl:Sl w0 1 v s.length (u8s s)) (hb:s.length≤4398046511104):CP 41 #[v] w0 fun e w'=>∃b,e=.returned (.slice (some ⟨b,0,none⟩) s.length (s.length+67))∧Step [] [(b,LendS s)] w0 w':=by
 have hs:Step [] [] w0 w0:=Step.refl w0
 have ob:=hl.form
 obtain⟨a,c,rfl⟩:=ob
 refine calls (n:=27) Tryz.func41 rfl rfl rfl ?_
 refine sr<|wA<|wZ<|sr<|wm<|wV (run_lenSl u76 rfl)<|wV (run_add (c:=((s.length+67:Nat):Int)) rfl rfl (by omega) (by omega))<|WL.makeSlice (k:=s.length+67) u76 ty5 rfl (by omega) (by omega) rfl rfl rfl hs (fun b8 w hs=>?_)
 refine wA<|wZ ?_
 have hz:((List.replicate (s.length+67) [Value.int .u8 0]).flatten).length=s.length+67:=by simp
 generalize (List.replicate (s.length+67) [Value.int .u8 0]).flatten=zs at hs hz
 refine sr<|wm<|wm<|WL.copy u76 ty5 rfl rfl (hs) (hl.step0 hs) (Cells1.u8s s) (by omega) (fun k hk=>by cases hk;rfl) (fun w hs=>⟨fun k hk=>?_,fun h=>by cases h⟩)
 cases hk
 refine wZ ?_
 rw[Nat.min_eq_left (by omega),Nat.mul_one,←u8s_len s,take_length] at hs
 have hs0:Step [] [(b8,blk 5 (u8s s++pads 0++zs.drop s.length))] w0 w:=by
  have:splice zs 0 (u8s s)=u8s s++pads 0++zs.drop s.length:=by simp[splice,pads,u8s]
  rw[←this];exact hs
 refine cq<|sr<|wm<|wV (run_lenSl u76 rfl)<|wA<|wZ<|cB<|CW.loop (fun m f w'=>∃j more,j≤67∧m=67 - j∧Step [] [(b8,blk 5 (u8s s++pads j++more))] w0 w'∧more.length=67 - j∧Holds f [(0,.slice a s.length c),(3,.slice (some ⟨b8,0,none⟩) (s.length+67) (s.length+67)),(4,.int .i64 (s.length+j:Nat))]) (m:=67) ?_ ?_
 ·exact⟨0,_,by omega,rfl,hs0,by simp[hz],rfl,rfl,rfl,trivial⟩
 ·rintro m f w ⟨j,more,hj,rfl,hs,hm,hf⟩
  have ob:=hf.chain
  obtain⟨g,rfl⟩:=ob
  refine cq<|sr<|wm<|wm<|wV (run_lenSl u76 rfl)<|wV (run_lss rfl rfl)<|wZ<|CW.condP rfl (fun h=>?_) (fun h=>?_)
  ·have hlt:j<67:=by omega
   have hlen:(u8s s++pads j).length=s.length+j:=by simp[u8s,pads]
   have hlen2:(u8s s++pads j++more).length=s.length+67:=by rw[length_append,hlen,hm];omega
   refine ck<|cq<|cB<|cr<|wm<|wm<|wV (run_ixSlN u76 ty5 rfl rfl (by omega))<|ws1 ty5 rfl rfl (rfl) hs (fun w hs=>?_)
   refine wZ<|cr<|wm<|wV (run_add (c:=((s.length+(j+1):Nat):Int)) rfl rfl (by omega) (by omega))<|wA<|wZ<|(show _∧_ from⟨rfl,_,?_,j+1,more.drop 1,by omega,rfl,?_,?_,rfl,rfl,rfl,trivial⟩)
   ·omega
   ·match more,hm with
    | [],hm=>simp at hm;omega
    | x::more,hm=>
     have e:(u8s s++pads j++x::more).set (0+(s.length+j)*1) (Value.int .u8 169)=u8s s++pads (j+1)++more:=by
      rw[Nat.zero_add,Nat.mul_one,←hlen,set_append_right _ _ (Nat.le_refl _),Nat.sub_self]
      simp[pads,replicate_succ',append_assoc]
     exact hs.cast e
   ·simp[hm];omega
  ·obtain rfl:j=67:=by omega
   obtain rfl:more=[]:=eq_nil_of_length_eq_zero (by omega)
   refine CW.exit<|sr<|wm<|wm<|wV (run_lenSl u76 rfl)<|wV (run_sliceSl0  u76 ty5 rfl rfl rfl (by simp) (by omega) (by omega))<|wA<|wZ<|CW.ret ?_
   refine fin_ret1 rfl ?_
   rw[append_nil] at hs
   exact⟨b8,rfl,hs⟩
theorem lent2{S:List Nat}{L:List (Nat×Obj)}{w0 w:World}{b c:Nat}{s:List UInt8} (hs:Step S ((b,LendS s)::L) w0 w):Sl w 1 (.slice (some ⟨b,0,none⟩) s.length c) s.length (u8s s):=
 .mk (by simp[u8s]) (At.of_blk (T:=5) hs.hd).left
theorem kept2_spec{u:Value}{s:List UInt8}{b:Nat} (w0:World) (hl:Sl w0 1 u s.length (u8s s)) (hbd:s.length≤4398046511104) (hb:w0.heap[b]?=some (LendS s)) :
  CP 44 #[.slice (some ⟨b,0,none⟩) s.length (s.length+67),u] w0 fun e w'=>e=.returned (.bool true)∧Step [b] [] w0 w':=by
 have hs:Step [b] [(b,LendS s)] w0 w0:=Step.start (L:=[(b,LendS s)]) (by simp) (by intro p hp;simp at hp;subst hp;exact hb)
 have hlen:(u8s s++pads 67).length=s.length+67:=by simp[u8s,pads]
 refine calls (n:=45) Tryz.func44 rfl rfl rfl ?_
 refine sr<|wA<|wZ<|sr<|wm<|wV (run_toString u76 u9 u5 rfl (lent2 hs))<|wm<|wV (run_toString u76 u9 u5 rfl (hl))<|wV (run_bT (run_strEq rfl rfl) (by rfl))<|wA<|wZ<|sr<|wm<|wm<|wV (run_lenSl u76 rfl)<|wV (run_add (c:=((s.length+67:Nat):Int)) rfl rfl (by omega) (by omega))<|wV (run_sliceSl0  u76 ty5 rfl rfl rfl (by simp) (by omega) (by omega))<|wA<|wZ<|cq<|sr ?_
 refine wm<|wV (run_lenSl u76 rfl)<|wA<|wZ<|cB<|CW.loop (fun m f w'=>∃i,i≤67∧m=67 - i∧Step [b] [(b,LendS s)] w0 w'∧Holds f [(5,.bool true),(6,.slice (some ⟨b,0,none⟩) (s.length+67) (s.length+67)),(7,.int .i64 (s.length+i:Nat))]) (m:=67) ?_ ?_
 ·exact⟨0,by omega,by omega,hs,rfl,rfl,rfl,trivial⟩
 ·rintro m f w ⟨i,hi,rfl,hs,hf⟩
  have ob:=hf.chain
  obtain⟨g,rfl⟩:=ob
  refine cq<|sr<|wm<|wm<|wV (run_lenSl u76 rfl)<|wV (run_lss rfl rfl)<|wZ<|CW.condP rfl (fun h=>?_) (fun h=>?_)
  ·have hlt:i<67:=by omega
   have hx:(u8s s++pads 67)[0+(s.length+i)*1]?=some (.int .u8 169):=by
    rw[getElem?_append_right (by rw[u8s_len];omega)]
    exact pads_get (by rw[u8s_len];omega)
   refine ck<|cq<|cB<|cr<|wm<|wm<|wy<|wm<|wy<|wm<|wy<|wV (run_ixSlN u76 ty5 rfl rfl (by omega))<|wy<|wl ty5 rfl (hs.c0 hx)<|wy<|wV (run_bT (run_eql rfl rfl) (by rfl))<|wV (run_pickT rfl)<|wA<|wZ<|cr<|wm<|wV (run_add (c:=((s.length+(i+1):Nat):Int)) rfl rfl (by omega) (by omega))<|wA<|wZ ?_
   refine(show _∧_ from⟨rfl,_,?_,i+1,by omega,rfl,hs,rfl,rfl,rfl,trivial⟩)
   omega
  ·refine CW.exit<|cq<|sr<|wA<|wZ<|cB<|CW.loop (fun m f w'=>∃i cs,i≤s.length+67∧m=s.length+67 - i∧cs.length=s.length+67∧Step [b] [(b,blk 5 cs)] w0 w'∧Holds f [(5,.bool true),(6,.slice (some ⟨b,0,none⟩) (s.length+67) (s.length+67)),(8,.int .i64 i)]) (m:=s.length+67) ?_ ?_
   ·exact⟨0,_,by omega,by omega,hlen,hs,rfl,rfl,rfl,trivial⟩
   ·rintro m f w ⟨i,cs,hi,rfl,hcs,hs,hf⟩
    have ob:=hf.chain
    obtain⟨g,rfl⟩:=ob
    refine cq<|sr<|wm<|wm<|wV (run_lenSl u76 rfl)<|wV (run_lss rfl rfl)<|wZ<|CW.condP rfl (fun h=>?_) (fun h=>?_)
    ·have hlt:i<s.length+67:=by omega
     refine ck<|cq<|cB<|cr<|wm<|wm<|wV (run_ixSlN u76 ty5 rfl rfl (by omega))<|ws1 ty5 rfl rfl (rfl) hs (fun w hs=>?_)
     refine wZ<|cr<|wm<|wV (run_add (c:=((i+1:Nat):Int)) rfl rfl (by omega) (by omega))<|wA<|wZ<|(show _∧_ from⟨rfl,_,?_,i+1,_,by omega,rfl,?_,hs,rfl,rfl,rfl,trivial⟩)
     ·omega
     ·rw[length_set,hcs]
    ·refine CW.exit<|sr<|wm<|wA<|wZ<|CW.ret ?_
     refine fin_ret1 rfl ?_
     exact⟨rfl,hs.clear⟩
theorem putRun_okA:∀{l:List (List UInt8)}{t:AS},t.Ok→(putRun t l).2.Ok
 | [],t,h=>h
 | x::l,t,h=>by
  by_cases c:(t.put x).2.1≠0
  ·rw[putRun_bad c];exact h.put x
  ·rw[putRun_ok (by simpa using c)];exact putRun_okA (h.put x)
theorem unpR_okA{s:AS} (ok:s.Ok) (bs:List UInt8) (of:List (List UInt8)):(unpR s bs of).2.2.Ok:=by
 unfold unpR
 split
 ·exact ok
 ·split
  ·exact ok
  ·split
   ·exact ok
   ·exact putRun_okA ok
theorem unpR_32{s:AS} (ok:s.Ok) (bs:List UInt8) (of:List (List UInt8)):(unpR s bs of).1.length=32:=by
 unfold unpR
 split
 ·rfl
 ·split
  ·rfl
  ·split
   ·rfl
   ·show(if _ then _ else _:List UInt8).length=32
    split
    ·exact frontL_len ok.k2
    ·rfl
theorem perm_u1{α:Type}{a c:α}{LR L R D:List α}:((a::(LR++(L++(R++D))))++[c]).Perm ((c::a::LR)++(L++(R++D))):=by
 classical exact perm_iff_count.2 fun x=>by simp only[count_append,count_cons,count_nil];omega
theorem out_hd{S:List Nat}{b:Nat}{o:Obj}{X Y:List (Nat×Obj)}{w0 w:World} (hs:Step S ((b,o)::X) w0 w) (h:∀p∈Y,p∈X):b∉Y.map (·.1):=by
 have hn:=hs.nodup
 rw[map_cons,nodup_cons] at hn
 intro hb
 have ob:=mem_map.1 hb
 obtain⟨p,hp,hpe⟩:=ob
 exact hn.1 (mem_map.2 ⟨p,h p hp,hpe⟩)
section
variable{wd:Int}{x:Stup}{v:Value}{bs:List UInt8}
set_option maxHeartbeats 16000000 in
theorem flowUnpacks_spec (w0:World) (hx:x.Ok w0) (hv:Sl w0 1 v bs.length (u8s bs)) (hroom:Room v) (hlen:bs.length≤4398046511104) :
  CP 11 #[.int .i64 wd,.agg x.cells.toArray,v] w0 (Ret0 (.bool true) w0):=by
 have hs:Step [] [] w0 w0:=Step.refl w0
 have hcl:x.cells.length=6:=rfl
 have ob:=hv.form
 obtain⟨va,vc,rfl⟩:=ob
 by_cases hbad:(wd<1∨32<wd)∨¬(0≤x.cap∧x.cap≤67108864)
 ·refine calls (n:=73) Tryz.func11 rfl rfl rfl ?_
  refine sr<|WL.box (cs:=x.cells) rfl rfl rfl hs (fun b4 w hs=>?_)
  refine wA<|wZ<|cq<|sr<|wE rfl (run_call en15 rfl rfl) (known8_spec _) ?_
  rintro e w ⟨rfl,hq⟩
  refine⟨_,rfl,?_⟩
  replace hs:=hs.callE hq
  refine wV (run_not rfl)<|wZ<|CW.cond rfl (fun h=>?_) (fun h=>?_)
  ·cases h
  refine ck<|sr<|wm<|wV (run_loadN ty28 rfl hcl hs.a0)<|wE rfl (run_call en16 rfl rfl) (made8_bad hbad rfl _) ?_
  rintro e w ⟨rfl,hq⟩
  refine⟨_,rfl,?_⟩
  replace hs:=hs.callE hq
  refine wm<|wx rfl rfl<|wx rfl rfl<|wA<|wA<|wZ<|cq<|sr<|wm<|wV (run_not rfl)<|wm<|wy<|wm ?_
  refine wy<|wV (run_nilNil u32 rfl rfl)<|wV (run_pickF rfl)<|wZ<|CW.cond rfl (fun h=>?_) (fun h=>?_)
  ·refine sr<|wm<|wA<|wZ<|CW.ret ?_
   refine fin_ret1 rfl ?_
   exact⟨rfl,hs.clear⟩
  ·cases h
 have ob:∃k:Nat,wd=k:=⟨wd.toNat,by omega⟩
 obtain⟨k,rfl⟩:=ob
 have ob:∃c:Nat,x.cap=c:=⟨x.cap.toNat,by omega⟩
 obtain⟨c,hc⟩:=ob
 refine calls (n:=73) Tryz.func11 rfl rfl rfl ?_
 refine sr<|WL.box (cs:=x.cells) rfl rfl rfl hs (fun b4 w hs=>?_)
 refine wA<|wZ<|cq<|sr<|wE rfl (run_call en15 rfl rfl) (known8_spec _) ?_
 rintro e w ⟨rfl,hq⟩
 refine⟨_,rfl,?_⟩
 replace hs:=hs.callE hq
 refine wV (run_not rfl)<|wZ<|CW.cond rfl (fun h=>?_) (fun h=>?_)
 ·cases h
 refine ck<|sr<|wm<|wV (run_loadN ty28 rfl hcl hs.a0)<|wE rfl (run_call en16 rfl rfl) (made8_spec (by omega) (by omega) (by omega) hc _ (hx.step0 hs.clear)) ?_
 rintro e w ⟨bw,bp,br,rfl,s,roots,vR,LR,L,R,D,hM,few,hsk,hrl⟩
 refine⟨_,rfl,?_⟩
 have hs2:=Step.call0 hs hM.hs
 replace hs:=Step.perm hs2 perm_u1
 refine wm<|wx rfl rfl<|wx rfl rfl<|wA<|wA<|wZ ?_
 have ok:=hM.ok
 have ob:=goF_some s.k ok.k2 (upP s.k bs).2
 obtain⟨gf,of,kk,hG⟩:=ob
 have oku:=unpR_okA ok bs of
 have h32:=unpR_32 ok bs of
 refine cq<|sr<|wm<|wV (run_not rfl)<|wm<|wy<|wm<|wy<|wV (run_ptrNil u32 rfl rfl)<|wV (run_pickF rfl)<|wZ<|CW.cond rfl (fun h=>?_) (fun h=>?_)
 ·cases h
 refine ck<|sr<|wm<|wE rfl (run_call en41 rfl rfl) (lend2_spec _ (hv.step0 hs.clear) hlen) ?_
 rintro e w ⟨bm,rfl,hq⟩
 refine⟨_,rfl,?_⟩
 replace hs:=hs.call0 hq
 refine wA<|wZ ?_
 replace hs:Step [] (((bm,LendS bs)::(b4,blk 28 x.cells)::(bw,blk 42 (w8C bp br vR))::LR)++(L++(R++D))) w0 w:=hs
 have hmv:∀{w1:World}{Y:List (Nat×Obj)},Step (List.map (·.1) (L++D)) Y w w1→Sl w1 1 (.slice (some ⟨bm,0,none⟩) bs.length (bs.length+67)) bs.length (u8s bs):=fun h=>(lent2 hs).step h (out_hd hs fun p hp=>by rcases mem_append.1 hp with hp | hp <;> simp[hp])
 have hun:=unpack_spec (w0:=w) hM.pr ok few (by omega) hmv (by omega) hG (Two.live (A:=_::_::_::LR) hs)
 have hur:=fun{w1:World}{D1:List (Nat×Obj)} hv2 h=>unpackR_spec (w0:=w1) (v:=.slice va bs.length vc) (hM.rr.mono (D':=D1++D) mem_right) ok few (by omega) hv2 hroom (by omega) hG h
 have ob:∃un,unpR s bs of=un:=⟨_,rfl⟩
 obtain⟨un,hune⟩:=ob
 simp only[hune] at hun hur oku h32
 have hdl:(u8s un.1).length=32:=by rw[u8s,length_map,h32]
 refine sr<|wm<|wn rfl<|wF 0 u42 rfl ty39 rfl<|wl ty39 rfl (hs.c2 rfl)<|wm<|wE rfl (run_call en42 rfl rfl) (hun) ?_
 rintro e w ⟨L1,D1,rfl,hP1,hq⟩
 refine⟨_,rfl,?_⟩
 replace hs:=Two.put (A:=_::_::_::LR) hs hq
 refine wm<|wx rfl rfl<|wx rfl rfl<|WL.alloc ty44 rfl hs (fun b10 w hs=>?_)
 refine WL.storeAll ty44 rfl rfl ((hdl)) ((Cells1.u8s _)) hs (by rfl) (fun w hs=>?_)
 refine wA<|wZ ?_
 replace hs:Step [] (((b10,blk 44 (u8s un.1))::(bm,LendS bs)::(b4,blk 28 x.cells)::(bw,blk 42 (w8C bp br vR))::LR)++(L1++(R++(D1++D)))) w0 w:=hs
 have hbv:∀{w1:World}{Y:List (Nat×Obj)},Step (List.map (·.1) (R++(D1++D))) Y w w1→Sl w1 1 (.slice va bs.length vc) bs.length (u8s bs):=fun h=>(hv.step0 hs.clear).stepE h (OutE.new hs hv (.inr (outside_nil _)) fun p hp=>by rcases mem_append.1 hp with hp | hp <;> simp[hp])
 have hur2:=hur hbv (Two.rlive (A:=_::_::_::_::LR) hs)
 refine sr<|wm<|wn rfl<|wF 1 u42 rfl ty40 rfl<|wl ty40 rfl (hs.c3 rfl)<|wm<|wE rfl (run_call en43 rfl rfl) (hur2) ?_
 rintro e w ⟨R1,D2,rfl,hR1,hq⟩
 refine⟨_,rfl,?_⟩
 replace hs:=Two.rput (A:=_::_::_::_::LR) hs hq
 refine wm<|wx rfl rfl<|wx rfl rfl<|WL.alloc ty44 rfl hs (fun b12 w hs=>?_)
 refine WL.storeAll ty44 rfl rfl ((hdl)) ((Cells1.u8s _)) hs (by rfl) (fun w hs=>?_)
 refine wA<|wZ ?_
 have hP2:PRep bp un.2.2 (D2++(D1++D)) L1:=hP1.mono mem_right
 have hal:=fun{w:World} h1 h2=>alike8_spec (w0:=w) hP2 hR1 oku h1 h2
 replace hs:Step [] ((bm,LendS bs)::(((b12,blk 44 (u8s un.1))::(b10,blk 44 (u8s un.1))::(b4,blk 28 x.cells)::(bw,blk 42 (w8C bp br vR))::LR)++(L1++(R1++(D2++(D1++D)))))) w0 w:=hs.perm (by classical exact perm_iff_count.2 fun x=>by simp only[count_append,count_cons];omega)
 have hK:∀{Y:List (Nat×Obj)}{w:World},Step [] (((b12,blk 44 (u8s un.1))::(b10,blk 44 (u8s un.1))::(b4,blk 28 x.cells)::(bw,blk 42 (w8C bp br vR))::LR)++Y) w0 w→Step [] [(b12,blk 44 (u8s un.1)),(b10,blk 44 (u8s un.1)),(b4,blk 28 x.cells),(bw,blk 42 (w8C bp br vR))] w0 w:=fun {Y w} h=>Step.dropR (L1:=[_,_,_,_]) (L2:=LR++Y) h
 have hkp:=fun{w1:World}{Y:List (Nat×Obj)} (h:Step [] ((bm,LendS bs)::Y) w0 w1)=>kept2_spec w1 (s:=bs) (u:=.slice va bs.length vc) (b:=bm) (hv.step0 h.clear) hlen h.hd
 refine cq<|CW.any (A:=fun w=>Step [] [(b12,blk 44 (u8s un.1)),(b10,blk 44 (u8s un.1)),(b4,blk 28 x.cells),(bw,blk 42 (w8C bp br vR))] w0 w) (C:=fun w=>Step [] [(b12,blk 44 (u8s un.1)),(b10,blk 44 (u8s un.1)),(b4,blk 28 x.cells),(bw,blk 42 (w8C bp br vR))] w0 w) 1000000 25 mixedP rfl ?_
 replace hs:=hs.drew
 refine aM 0 rfl<|aM 1 rfl<|AL.one 2 (by kernel_rfl) rfl (by exact hK hs.tail) (by exact hK hs.tail) ?_
 refine wE rfl (run_call en44 rfl rfl) (hkp hs) ?_
 rintro e w ⟨rfl,hq2⟩
 refine⟨_,rfl,?_⟩
 replace hs:=Step.call (L1:=[_]) (L':=[]) hs hq2
 refine wZ<|⟨rfl,?_⟩
 refine aM 3 rfl<|AL.valY 4 rfl (by kernel_rfl) rfl rfl rfl rfl (fun w hs=>run_loadN ty44 rfl hdl hs.a1) ?_
 refine AL.valY 5 rfl (by kernel_rfl) rfl rfl rfl rfl (fun w hs=>run_loadN ty44 rfl hdl hs.a0) ?_
 refine AL.valY 6 rfl (by kernel_rfl) rfl rfl rfl rfl (fun w hs=>run_bT (run_eqDig h32 h32 rfl rfl) rfl) ?_
 refine aV 7 rfl (fun w hs=>run_pickT rfl)<|aM 8 rfl<|AL.valY 9 rfl (by kernel_rfl) rfl rfl rfl rfl (fun w hs=>run_move) ?_
 refine AL.valY 10 rfl (by kernel_rfl) rfl rfl rfl rfl (fun w hs=>run_move) ?_
 refine AL.valY 11 rfl (by kernel_rfl) rfl rfl rfl rfl (fun w hs=>run_bT (run_eql rfl rfl) (by rfl)) ?_
 refine aV 12 rfl (fun w hs=>run_pickT rfl)<|aM 13 rfl<|AL.valY 14 rfl (by kernel_rfl) rfl rfl rfl rfl (fun w hs=>run_move) ?_
 refine AL.valY 15 rfl (by kernel_rfl) rfl rfl rfl rfl (fun w hs=>run_nilCheck rfl) ?_
 refine AL.valY 16 rfl (by kernel_rfl) rfl rfl rfl rfl (fun w hs=>run_field (o':=0) u42 rfl ty39 rfl rfl rfl) ?_
 refine AL.valY 17 rfl (by kernel_rfl) rfl rfl rfl rfl (fun w hs=>run_load1 ty39 rfl (hs.c3 rfl)) ?_
 refine AL.valY 18 rfl (by kernel_rfl) rfl rfl rfl rfl (fun w hs=>run_move) ?_
 refine AL.valY 19 rfl (by kernel_rfl) rfl rfl rfl rfl (fun w hs=>run_nilCheck rfl) ?_
 refine AL.valY 20 rfl (by kernel_rfl) rfl rfl rfl rfl (fun w hs=>run_field (o':=1) u42 rfl ty40 rfl rfl rfl) ?_
 refine AL.valY 21 rfl (by kernel_rfl) rfl rfl rfl rfl (fun w hs=>run_load1 ty40 rfl (hs.c3 rfl)) ?_
 refine AL.one 22 (by kernel_rfl) rfl (by exact hK hs) (by exact hK hs) ?_
 refine wy<|wE rfl (run_call en22 rfl rfl) (hal (Two.live (A:=_::_::_::_::LR) hs) (Two.rlive (A:=_::_::_::_::LR) hs)) ?_
 rintro e w ⟨rfl,hq3⟩
 refine⟨_,rfl,?_⟩
 replace hs:=hs.callE hq3
 refine wZ<|⟨rfl,?_⟩
 refine aV 23 rfl (fun w hs=>run_pickT rfl)<|aV 24 rfl (fun w hs=>run_assign)<|AL.end (by kernel_rfl) (by exact hK hs) (by exact hK hs) ?_
 refine CW.ret ?_
 refine fin_ret1 rfl ?_
 exact⟨rfl,hs.clear⟩
end
end Go.Gx
namespace Go.Gx
open Go.Proofs Go.ChangeShapes Go.WideShapes Go.ChangeAt Go.RowKit Go.Deep List
open Go.Proofs.YtplmnkogkfhaiaaGreat (Rows.uptoBulk Rows.uptoBulkAll)
section
variable{H:Type}{enc:TypeId×Value→H}{w:World}{spare:Nat→Bool}{held:Bool}
theorem open_bytes{v:Value}{d:DataW H}{ps:List MemPlace}{r:Reach}{b0:Nat} (hval:Value.okWide Tryz.prog w r b0 76 v) (h:DataW.Trod enc Tryz.prog w 0 spare held 76 v d ps):∃s:List UInt8,Sl w 1 v s.length (u8s s)∧Room v∧s.length≤9223372036854775807∧(Rows.uptoBulk d≤1048576→s.length≤1048576):=by
 obtain⟨fuel,h⟩:=h
 have ob:=okWide_slice u76 hval
 obtain⟨a0,len,cap,rfl⟩:=ob
 have hc1:Tryz.prog.cellsOf 5=1:=ty5.cellsOf
 rcases ChangeShapes.open_ints (k:=.u8) u76 u5 hc1 h with⟨hc,_⟩ | ⟨a,len',cap',zs,hc,_,hlc,hcm,hm,hx,hi,hwf⟩
 ·have:Value.slice a0 len cap=.slice none 0 0:=by simpa[Value.cells] using hc
  cases this
  exact⟨[],Sl.nil _ _ _,Nat.le_refl 0,by simp,fun _=>by simp⟩
 ·have:Value.slice a0 len cap=.slice (some a) len' cap':=by simpa[Value.cells] using hc
  cases this
  have hspot:a.spot=none:=by
   simp only[Value.okWide,u76,Cell.okWide,Cell.ok] at hval
   exact hval.2.2.2.1
  obtain⟨b,off,sp⟩:=a
  simp only at hspot
  subst hspot
  have hle:len≤zs.length:=by rw[hm];split <;> omega
  have hd:d=_:=congrArg Prod.fst hx
  have hmx:maxLen=9223372036854775807:=by decide
  have hlen:=bulk_len (H:=H) (lits .u8 (zs.take len))
  have hll:(lits (H:=H) .u8 (zs.take len)).length=len:=by simp[lits];omega
  have hval8:∀n∈zs,∃c:UInt8,n=c.toNat:=fun n hn=>by
   have hw:=hwf n hn
   simp only[Lit.wf,Bool.and_eq_true,decide_eq_true_eq] at hw
   have h0:(IntKind.u8).min=0:=by decide
   have h255:(IntKind.u8).max=255:=by decide
   rw[h0,h255] at hw
   refine⟨UInt8.ofNat n.toNat,?_⟩
   rw[UInt8.toNat_ofNat_of_lt' (show n.toNat<256 by omega)]
   omega
  have hu:((zs.take len).map fun n=>Value.int .u8 n)=u8s ((zs.take len).map fun n=>UInt8.ofNat n.toNat):=by
   unfold u8s
   rw[map_map]
   apply map_congr_left
   intro n hn
   have ob:=hval8 n (mem_of_mem_take hn)
   obtain⟨c,rfl⟩:=ob
   simp
  refine⟨(zs.take len).map fun n=>UInt8.ofNat n.toNat,?_,hlc,by simp;omega,fun hb=>by rw[hd] at hb;simp only[Rows.uptoBulk] at hb;simp;omega⟩
  have hl2:((zs.take len).map fun n=>UInt8.ofNat n.toNat).length=len:=by simp;omega
  rw[hl2]
  refine .mk (by simp[u8s];omega) ?_
  rw[←hu]
  intro j v hj
  rw[getElem?_map] at hj
  cases hz:(zs.take len)[j]? with
  | none=>rw[hz] at hj;cases hj
  | some n=>
   rw[hz] at hj
   obtain rfl:Value.int .u8 n=v:=by simpa using hj
   have hjl:j<len:=by
    have:=(List.getElem?_eq_some_iff.1 hz).1
    simp at this
    omega
   have h2:=hi j (by omega)
   rw[add_off] at h2
   rw[h2]
   rw[getElem?_take,if_pos hjl] at hz
   simp[getD,hz]
end
end Go.Gx
