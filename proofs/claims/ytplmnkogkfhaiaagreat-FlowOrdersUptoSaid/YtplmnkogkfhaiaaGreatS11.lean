/- The program's fits: walked. The program's Unpack: walked. The document's Read of a pack: walked. The document's Fits: walked. The document's Unpack: walked. FlowUnpacks, walked. A pack read again: its blobs, as they were. No program in sight. A pack taken out elsewhere, plain: the walk meets what it -/
import Derived.Test.YtplmnkogkfhaiaaGreatS10
import Derived.Test.YtplmnkogkfhaiaaGreatS2
set_option linter.unusedVariables false
set_option linter.unusedSimpArgs false
set_option maxRecDepth 100000
namespace Go.Gx
open Go.Proofs List
attribute [local irreducible] shaL cutD frontL
def lastK (k:Nat) (l:List (List UInt8)):(List UInt8):=frontL (l.getLastD []) k
def fitS (k:Nat) (l:List (List UInt8)):AS:=putAll (newS k 67108864) l
def fitB (k:Nat) (l of:List (List UInt8)):Bool:=decide ((digsK k l).Nodup∧(runs (fitS k l) rmG [rootS (lastK k l)] ws0).1=0∧of=digsK k l)
theorem fitB_dup{k:Nat}{l of:List (List UInt8)} (h:¬(digsK k l).Nodup):fitB k l of=false:=decide_eq_false fun hh=>h hh.1
theorem fitB_bad{k:Nat}{l of:List (List UInt8)} (h:(runs (fitS k l) rmG [rootS (lastK k l)] ws0).1≠0):fitB k l of=false:=decide_eq_false fun hh=>h hh.2.1
theorem fitB_ok{k:Nat}{l of:List (List UInt8)} (h:(digsK k l).Nodup) (h0:(runs (fitS k l) rmG [rootS (lastK k l)] ws0).1=0):fitB k l of=decide (of=digsK k l):=by
 unfold fitB
 simp[h,h0]
theorem last_get{l:List (List UInt8)} (h:0<l.length):l[l.length - 1]?=some (l.getLastD []):=by
 rw[getLastD_eq_getLast?,getLast?_eq_getElem?,getElem?_eq_getElem (by omega)]
 rfl
theorem digsK_get{k:Nat}{l:List (List UInt8)}{i:Nat}{x:U8} (h:l[i]?=some x):(digsK k l)[i]?=some (frontL x k):=by simp[digsK,h]
theorem digsK_32{k:Nat} (hk:k≤32){l:List (List UInt8)}:∀d∈digsK k l,d.length=32:=fun d hd=>by
 have ob:=mem_map.1 hd
 obtain⟨x,_,rfl⟩:=ob
 exact frontL_len hk
theorem dup_take{k i:Nat}{l:List (List UInt8)}{x:U8} (hx:l[i]?=some x) (h:frontL x k∈digsK k (l.take i)):¬(digsK k l).Nodup:=fun hn=>by
 have e:l=l.take i++x::l.drop (i+1):=by
  have ob:=List.getElem?_eq_some_iff.1 hx
  obtain⟨hlt,rfl⟩:=ob
  rw[←drop_eq_getElem_cons hlt,take_append_drop]
 rw[e,digsK,map_append,map_cons,nodup_append] at hn
 exact hn.2.2 _ h _ (by simp) rfl
section
variable{v:Value}{B:BL}{k kk:Nat}{gf of:List (List UInt8)}{D:OL}{w0:World}
set_option maxHeartbeats 8000000 in
theorem fits8_spec (hk1:1≤k) (hk:k≤32) (hvB:∃Lv,OwnSl 76 1 v B.length (cellsB B) Lv∧∀p∈Lv,p∈D) (hB:BOk D B) (hne:0<B.length) (hn:B.length≤65536) (hsum:((B.map (·.2)).map List.length).sum≤4194304)
  (hG:(digsK k (B.map (·.2))).Nodup→(runs (fitS k (B.map (·.2))) rmG [rootS (lastK k (B.map (·.2)))] ws0).1=0→Goes (partsM (fitS k (B.map (·.2))) (runs (fitS k (B.map (·.2))) rmG [rootS (lastK k (B.map (·.2)))] ws0).2.m) [lastK k (B.map (·.2))] [] [] gf of kk) (hw:Lives D w0) :
  CP 97 #[.int .i64 (k:Nat),v] w0 (Ret0 (.bool (fitB k (B.map (·.2)) of)) w0):=by
 have ob:∃l,B.map (·.2)=l:=⟨_,rfl⟩
 obtain⟨l,hl⟩:=ob
 rw[hl] at hsum hG⊢
 have hll:l.length=B.length:=by rw[←hl,length_map]
 have hs:Step (List.map (·.1) D) D w0 w0:=hw
 obtain⟨Lb,hvb,hLb⟩:=hvB
 have hfin:∀{Y:OL}{w:World},Step (List.map (·.1) D) (Y++D) w0 w→Step [] [] w0 w:=fun h=>(Step.fin3 (A:=[]) (O:=[]) hw h).clear
 have hvs:∀{Y:OL}{w:World},Step (List.map (·.1) D) Y w0 w→(∀p∈D,p∈Y)→Sl w 1 v B.length (B.map fun t=>t.1):=fun h hm=>hvb.slW fun p hp=>h.has p (hm p (hLb p hp))
 have ob:∃tl,B[B.length - 1]?=some tl:=⟨_,getElem?_eq_getElem (by omega)⟩
 obtain⟨tl,htl⟩:=ob
 have ob:=sl_at1 (c:=fun t:Value×List UInt8=>t.1) (hvs hs fun p hp=>hp) htl
 obtain⟨bb,bo,bc,hbe,_⟩:=ob
 subst hbe
 refine calls (n:=86) Tryz.func97 rfl rfl rfl ?_
 refine sr<|wA<|wZ<|sr<|wm<|wE rfl (run_call en56 rfl rfl) (new_abs hk1 hk (c:=67108864) (by decide) _) ?_
 rintro e w ⟨bp,L0,rfl,hP0,hq⟩
 refine⟨_,rfl,?_⟩
 replace hs:=Step.call0 hs hq
 refine wm<|wx rfl rfl<|wx rfl rfl<|wA<|wA<|wZ<|cq<|sr<|wm<|wV (run_bF (run_neq rfl rfl) (by exact fun h=>h rfl))<|wZ<|CW.cond rfl (fun h=>?_) (fun h=>?_)
 ·cases h
 refine ck<|sr<|wA<|wZ<|cq<|sr<|wm<|wL u24 rfl<|wm<|wZ<|cB<|CW.loop (fun z f w'=>∃(i:Nat) (vO:Value) (LO Lc Dc:OL),i≤B.length∧z=B.length - i∧(digsK k (l.take i)).Nodup∧PutOk k (l.take i) (fitS k (l.take i))∧OwnSl 44 32 vO (digsK k (l.take i)).length (digsL (digsK k (l.take i))) LO∧PRep bp (fitS k (l.take i)) (Dc++D) Lc∧Step (List.map (·.1) D) (LO++(Lc++(Dc++D))) w0 w'∧Holds f [(1,.slice (some ⟨bb,bo,none⟩) B.length bc),(5,pt bp),(7,vO),(21,.slice (some ⟨bb,bo,none⟩) B.length bc),(22,.int .i64 (B.length:Nat)),(23,.int .i64 (i:Nat))]) (m:=B.length) ?_ ?_
 ·exact⟨0,_,[],L0,[],Nat.zero_le _,rfl,nodup_nil,PutOk.nil hk1 hk,OwnSl.nil _ _,hP0.mono (fun p hp=>by cases hp),hs,rfl,rfl,rfl,rfl,rfl,rfl,trivial⟩
 clear hs hP0
 rintro z f w ⟨i,vO,LO,Lc,Dc,hil,rfl,hnd,hPO,hvO,hP,hs,hf⟩
 have ob:=hf.chain
 obtain⟨g,rfl⟩:=ob
 by_cases hlt:i<B.length
 ·have ob:∃t,B[i]?=some t:=⟨_,getElem?_eq_getElem hlt⟩
  obtain⟨t,ht⟩:=ob
  have ob:=hB t (mem_of_getElem? ht)
  obtain⟨⟨LD,hvt,hLD⟩,htl1⟩:=ob
  have ob:∃x,t.2=x:=⟨_,rfl⟩
  obtain⟨x,hxe⟩:=ob
  rw[hxe] at hvt htl1
  have hx:l[i]?=some x:=by rw[←hl,getElem?_map,ht,←hxe];rfl
  have htk:l.take (i+1)=l.take i++[x]:=by rw[take_add_one,hx];rfl
  have ob:∃d,frontL x k=d:=⟨_,rfl⟩
  obtain⟨d,hd⟩:=ob
  have hd32:d.length=32:=by rw[←hd];exact frontL_len hk
  have hdl:(u8s d).length=32:=by rw[u8s,length_map,hd32]
  have ob:=hvt.form
  obtain⟨ta,tc,hte⟩:=ob
  have hcell:∀{Y:OL}{w:World},Step (List.map (·.1) D) Y w0 w→(∀p∈D,p∈Y)→w.cell? ⟨bb,bo+i*1,none⟩=some (.slice ta x.length tc):=fun h hm=>by
   have ob:=sl_at1 (c:=fun t:Value×List UInt8=>t.1) (hvs h hm) ht
   obtain⟨b2,o2,c2,he,hc⟩:=ob
   cases he
   rw[hc,hte]
  have hDc:∀p∈D,p∈LO++(Lc++(Dc++D)):=fun p hp=>by simp[hp]
  have hHt:Held (Dc++D) (.slice ta x.length tc) x:=⟨LD,hte▸hvt,fun p hp=>mem_append_right _ (hLD p hp)⟩
  have hroom:Room (.slice ta x.length tc):=hHt.room
  have hdig:=fun{w1:World} (h:Lives (Lc++(Dc++D)) w1)=>digest_abs (w0:=w1) (y:=x) hP hPO.ok h (hHt.sl fun p hp=>h.has p (mem_append_right _ hp)) hroom (by omega)
  have hhas:=fun{w1:World} (h:Lives (Lc++(Dc++D)) w1)=>has_abs (w0:=w1) hP hPO.ok h hd32
  have hph:=hPO.has d
  have hdn:(digsK k (l.take i)).length=i:=by rw[digsK_len,length_take];omega
  have hpk:=hPO.hk
  rw[hpk,hd] at hdig
  rw[hph] at hhas
  refine sr<|lT<|wZ<|cq<|CW.cond rfl (fun h=>?_) (fun h=>?_)
  ·refine ck<|cq<|cB<|sr<|wI u24 ty76 rfl rfl<|wl ty76 rfl (hcell hs hDc)<|wA<|wZ<|sr<|wm<|wm<|wE rfl (run_call en91 rfl rfl) (hdig (Lives.mk (Step.dropL (L1:=LO) hs))) ?_
   rintro e w ⟨rfl,hq⟩
   refine⟨_,rfl,?_⟩
   replace hs:=hs.callE hq
   refine WL.alloc ty44 rfl hs (fun b10 w hs=>?_)
   refine WL.storeAll ty44 rfl rfl ((hdl)) ((Cells1.u8s _)) hs (by rfl) (fun w hs=>?_)
   refine wZ ?_
   by_cases hin:d∈digsK k (l.take i)
   ·rw[decide_eq_true hin] at hhas
    refine cq<|sr<|wm<|wR ty44 rfl hdl hs.a0<|wE rfl (run_call en122 rfl rfl) (hhas (Lives.mk (Step.dropL (L1:=LO) hs.tail))) ?_
    rintro e w ⟨rfl,hq⟩
    refine⟨_,rfl,?_⟩
    replace hs:=hs.callE hq
    refine wZ<|CW.cond rfl (fun h=>?_) (fun h=>?_)
    ·refine sr<|wA<|wZ<|CW.ret ?_
     refine fin_ret1 rfl ?_
     rw[fitB_dup (dup_take hx (by rw[hd];exact hin))]
     exact⟨rfl,hfin (Y:=LO++(Lc++Dc)) (by rw[append_assoc,append_assoc];exact hs.tail)⟩
    ·cases h
   ·rw[decide_eq_false hin] at hhas
    have hnd2:(digsK k (l.take (i+1))).Nodup:=by
     rw[htk,digsK_app,hd,nodup_snoc]
     exact⟨hnd,hin⟩
    have hadd:=hPO.add (x:=x) (by rw[hd];exact hin) htl1 (by
     rw[←htk]
     have:=sum_take (l:=l) (i+1)
     omega)
    have hput:=fun{w1:World} (h:Lives (Lc++(Dc++D)) w1)=>put_abs (w0:=w1) (y:=x) hP hPO.ok hPO.few (by rw[length_take];omega) h (hHt.sl fun p hp=>h.has p (mem_append_right _ hp)) hroom (.inr (Own.outside (A:=[]) (L:=Lc) (D:=Dc++D) h hHt)) (by omega)
    obtain⟨a1,a2,hPO2⟩:=hadd
    rw[hd] at a1
    simp only[a1,a2] at hput
    have hfs:((fitS k (l.take i)).put x).2.2=fitS k (l.take (i+1)):=by rw[htk,fitS,fitS,putAll_app]
    rw[hfs,←htk] at hPO2
    rw[hfs] at hput
    refine cq<|sr<|wm<|wR ty44 rfl hdl hs.a0<|wE rfl (run_call en122 rfl rfl) (hhas (Lives.mk (Step.dropL (L1:=LO) hs.tail))) ?_
    rintro e w ⟨rfl,hq⟩
    refine⟨_,rfl,?_⟩
    replace hs:=hs.callE hq
    refine wZ<|CW.cond rfl (fun h=>?_) (fun h=>?_)
    ·cases h
    refine ck<|cq<|sr<|wm<|wm<|wE rfl (run_call en36 rfl rfl) (hput (Lives.mk (Step.dropL (L1:=LO) hs.tail))) ?_
    rintro e w ⟨L2,D2,rfl,hP2,hq⟩
    refine⟨_,rfl,?_⟩
    replace hs:=Own.put (A:=(b10,blk 44 (u8s d))::LO) (L:=Lc) hs hq
    refine wm<|wx rfl rfl<|wx rfl rfl<|WL.alloc ty44 rfl hs (fun b11 w hs=>?_)
    refine WL.storeAll ty44 rfl rfl ((hdl)) ((Cells1.u8s _)) hs (by rfl) (fun w hs=>?_)
    refine wA<|wZ ?_
    replace hs:=hs.tail
    refine sr<|wm<|wV (run_bF (run_neq rfl rfl) (by exact fun h=>h rfl))<|wZ<|CW.cond rfl (fun h=>?_) (fun h=>?_)
    ·cases h
    refine ck<|cr<|wm<|wR ty44 rfl hdl hs.a0<|WL.buildSlice (cs:=u8s d) u35 ty44 rfl (by decide) rfl (filled1 hdl rfl) rfl hs (fun b43 w hs=>?_)
    have hsl43:Sl w 32 (.slice (some ⟨b43,0,none⟩) 1 1) 1 (u8s d):=.own1 hs (by rw[hdl])
    replace hs:=Step.in2 (Z:=LO) hs
    refine WL.append u35 u35 ty44 rfl (by decide) rfl rfl (hvO) (hs) (hsl43) (Cells1.u8s _) (by omega) rfl (fun v44 Lv44 w hv44 hs=>?_)
    replace hs:=(Step.out2b hs).tail
    refine wA<|wZ<|cr<|wP ((i+1:Nat):Int)<|wm<|wZ<|(show _∧_ from⟨rfl,_,?_,i+1,v44,Lv44,L2,D2++Dc,hlt,rfl,hnd2,hPO2,?_,?_,?_,rfl,rfl,rfl,rfl,rfl,rfl,trivial⟩)
    ·omega
    ·rw[htk,digsK_app,hd,length_append,digsL_snoc]
     exact hv44
    ·rw[append_assoc];exact hP2
    ·rw[append_assoc];exact hs
  ·cases h
 ·obtain rfl:i=B.length:=by omega
  have htk:l.take B.length=l:=by rw[←hll,take_length]
  rw[htk] at hnd hPO hvO hP
  have hlg:=last_get (l:=l) (by omega)
  rw[hll] at hlg
  have ob:∃x,l.getLastD []=x:=⟨_,rfl⟩
  obtain⟨x,hxe⟩:=ob
  have ob:∃d,lastK k l=d:=⟨_,rfl⟩
  obtain⟨d,hd⟩:=ob
  have hdx:frontL x k=d:=by rw[←hd,←hxe];rfl
  rw[hxe] at hlg
  have hdg:=digsK_get (k:=k) hlg
  rw[hdx] at hdg
  have hd32:d.length=32:=by rw[←hdx];exact frontL_len hk
  have hdl:(u8s d).length=32:=by rw[u8s,length_map,hd32]
  have hdn:(digsK k l).length=B.length:=by rw[digsK_len,hll]
  rw[hdn] at hvO
  have hgx:=hPO.get x (mem_of_getElem? hlg)
  rw[hdx] at hgx
  have htx:tl.2=x:=by
   rw[←hl,getElem?_map,htl] at hlg
   exact Option.some.inj hlg
  have ob:=hvO.some1 (by omega)
  obtain⟨bu,cu,more,hu1,hu2,hu3⟩:=ob
  have hO:=hvO
  subst hu1
  have hbad:=fun h=>fitB_bad (k:=k) (l:=l) (of:=of) h
  have hfok:=fun h=>fitB_ok (k:=k) (l:=l) (of:=of) hnd h
  have hG:=hG hnd
  rw[hd] at hG hbad hfok
  have hwk:=fun{w1:World} h=>fwalk_spec (w0:=w1) (rn:=65536) (rd:=32) (rb:=67108864) hP hPO.ok hPO.few (by omega) hd32 rmG_ok h
  have hmet:=fun{t:WS} h=>runs_met (s:=fitS k l) (rm:=rmOf 65536 32 67108864) (t:=t) hd32 h
  have hgd:=standP_good (s:=fitS k l) (rm:=rmOf 65536 32 67108864) rmG_ok 34 (x:=rootS d) (t:=ws0) (ws0_good.mono (by omega))
  rw[←runs_root] at hgd
  rw[show rmG=rmOf 65536 32 67108864 from rfl] at hG hbad hfok
  have ob:∃r,runs (fitS k l) (rmOf 65536 32 67108864) [rootS d] ws0=r:=⟨_,rfl⟩
  obtain⟨r,hr⟩:=ob
  rw[hr] at hwk hG hgd hbad hfok
  have hat:∀{Y:OL}{w:World},Step (List.map (·.1) D) Y w0 w→(∀p∈LO,p∈Y)→At w bu (0+(B.length - 1)*32) (u8s d):=fun h hm=>digsL_at (digsK_32 hk) (At.of_blk (h.has (bu,blk 44 (digsL (digsK k l)++more)) (hm _ (by rw[hu2];exact mem_singleton.2 rfl)))).left hdg
  refine sr<|lF<|wZ<|cq<|CW.cond rfl (fun h=>?_) (fun h=>?_)
  ·cases h
  refine CW.exit<|sr<|wm<|wm<|wm<|wL u35 rfl<|wS ((B.length - 1:Nat):Int)<|wI u35 ty44 rfl rfl<|wR ty44 rfl hdl (hat hs (fun p hp=>mem_append_left _ hp))<|wV (run_build rfl (bld_room _ _ _ _))<|wE rfl (run_call en64 rfl rfl) (hwk (Lives.mk (Step.dropL (L1:=LO) hs))) ?_
  rintro e w ⟨vm,L1,D1,M,rfl,hP1,hM,hnil,hq⟩
  refine⟨_,rfl,?_⟩
  replace hs:=Own.put (A:=LO) (L:=Lc) hs hq
  refine wm<|wx rfl rfl<|wx rfl rfl<|wA<|wA<|wZ ?_
  by_cases he:r.1≠0
  ·rw[hbad he]
   refine cq<|CW.any (A:=fun w=>True) (C:=fun w=>True) 1000000 29 mixedP rfl ?_
   replace hs:=hs.drew
   refine aM 0 rfl<|aV 1 rfl (fun w hs=>run_bF (run_eql rfl rfl) (by exact he))<|aM 2 rfl<|AL.valN 3 rfl (by kernel_rfl) rfl rfl rfl (.inl rfl) ?_
   refine AL.valN 4 rfl (by kernel_rfl) rfl rfl rfl (.inl rfl) ?_
   refine AL.valN 5 rfl (by kernel_rfl) rfl rfl rfl (.inl rfl) ?_
   refine AL.valN 6 rfl (by kernel_rfl) rfl rfl rfl (.inl rfl) ?_
   refine aV 7 rfl (fun w hs=>run_pickF rfl)<|aM 8 rfl<|AL.valN 9 rfl (by kernel_rfl) rfl rfl rfl (.inl rfl) ?_
   refine AL.valN 10 rfl (by kernel_rfl) rfl rfl rfl (.inl rfl) ?_
   refine AL.valN 11 rfl (by kernel_rfl) rfl rfl rfl (.inl rfl) ?_
   refine AL.valN 12 rfl (by kernel_rfl) rfl rfl rfl (.inl rfl) ?_
   refine AL.valN 13 rfl (by kernel_rfl) rfl rfl rfl (.inl rfl) ?_
   refine AL.valN 14 rfl (by kernel_rfl) rfl rfl rfl (.inl rfl) ?_
   refine AL.valN 15 rfl (by kernel_rfl) rfl rfl rfl (.inl rfl) ?_
   refine AL.valN 16 rfl (by kernel_rfl) rfl rfl rfl (.inl rfl) ?_
   refine AL.valN 17 rfl (by kernel_rfl) rfl rfl rfl (.inl rfl) ?_
   refine AL.valN 18 rfl (by kernel_rfl) rfl rfl rfl (.inl rfl) ?_
   refine AL.valN 19 rfl (by kernel_rfl) rfl rfl rfl (.inl rfl) ?_
   refine AL.valN 20 rfl (by kernel_rfl) rfl rfl rfl (.inl rfl) ?_
   refine AL.valN 21 rfl (by kernel_rfl) rfl rfl rfl (.inl rfl) ?_
   refine AL.valN 22 rfl (by kernel_rfl) rfl rfl rfl (.inl rfl) ?_
   refine AL.valN 23 rfl (by kernel_rfl) rfl rfl rfl (.inl rfl) ?_
   refine AL.valN 24 rfl (by kernel_rfl) rfl rfl rfl (.inl rfl) ?_
   refine AL.valN 25 rfl (by kernel_rfl) rfl rfl rfl (.inl rfl) ?_
   refine AL.valN 26 rfl (by kernel_rfl) rfl rfl rfl (.inl rfl) ?_
   refine aV 27 rfl (fun w hs=>run_pickF rfl)<|aA 28 rfl<|AL.end (by kernel_rfl) (trivial) (trivial) ?_
   refine CW.ret ?_
   refine fin_ret1 rfl ?_
   exact⟨rfl,hfin (Y:=LO++(L1++(M++(D1++Dc)))) (by simpa only[append_assoc] using hs)⟩
  have he0:r.1=0:=by simpa using he
  have hmet:=hmet (t:=r.2) (by rw[hr,←he0])
  have hgd:=hgd he0
  have hml:r.2.m.length≤65536:=Nat.le_trans hgd.m hgd.n
  have ob:=hmet.of_le (hG he0)
  obtain⟨hol,hofU⟩:=ob
  have hof32:∀y∈of,y.length=32:=fun y hy=>hmet.len y (hofU y hy)
  have ob:=hM he0
  obtain⟨bm,rfl,hMet⟩:=ob
  have hMet0:=hMet
  obtain⟨vM,LM,q1,M1,c1,q2,M2,c2,rfl,hOM,hBM,hPM⟩:=hMet
  have hbv:=hBM.val d
  have hdU:d∈ordM r.2.m:=mem_of_getElem? hmet.head
  obtain⟨u,hu,hHl⟩:∃u,((findD d M1 0).map (·.2)).getD (.slice none 0 0)=u∧Held (D1++(Dc++D)) u x:=by
   cases hv:valD d M1 with
   | none=>rw[hv] at hbv;exact absurd hdU hbv
   | some u=>
    rw[hv,hgx] at hbv
    refine⟨u,?_,hbv.2⟩
    show(valD d M1).getD _=_
    rw[hv];rfl
  have ob:=hB tl (mem_of_getElem? htl)
  obtain⟨⟨LD,hvt,hLD⟩,_⟩:=ob
  rw[htx] at hvt
  have hHt:Held D tl.1 x:=⟨LD,hvt,hLD⟩
  have hcl:∀{Y:OL}{w:World},Step (List.map (·.1) D) Y w0 w→(∀p∈D,p∈Y)→w.cell? ⟨bb,bo+(B.length - 1)*1,none⟩=some tl.1:=fun h hm=>by
   have ob:=sl_at1 (c:=fun t:Value×List UInt8=>t.1) (hvs h hm) htl
   obtain⟨b2,o2,c2,he,hc⟩:=ob
   cases he
   exact hc
  replace hs:Step (List.map (·.1) D) (LO++(L1++(((bm,blk 132 [vM,.map (some q1),.map (some q2)])::(q1,mapObj M1 c1)::(q2,mapObj M2 c2)::LM)++(D1++(Dc++D))))) w0 w:=by simpa only[append_assoc] using hs
  have hK:∀{Y:OL}{w:World},Step (List.map (·.1) D) Y w0 w→(∀p∈LO++(L1++(((bm,blk 132 [vM,.map (some q1),.map (some q2)])::(q1,mapObj M1 c1)::(q2,mapObj M2 c2)::LM)++(D1++(Dc++D)))),p∈Y)→w.heap[bm]?=some (blk 132 [vM,.map (some q1),.map (some q2)])∧w.heap[q1]?=some (mapObj M1 c1)∧At w bu (0+(B.length - 1)*32) (u8s d)∧w.cell? ⟨bb,bo+(B.length - 1)*1,none⟩=some tl.1:=fun h hm=>⟨h.has (bm,blk 132 [vM,.map (some q1),.map (some q2)]) (hm _ (by simp)),h.has (q1,mapObj M1 c1) (hm _ (by simp)),hat h (fun p hp=>hm p (by simp[hp])),hcl h (fun p hp=>hm p (by simp[hp]))⟩
  rw[hfok he0]
  have hbeh:=fun{w1:World} (h:Step (List.map (·.1) D) (LO++(L1++(((bm,blk 132 [vM,.map (some q1),.map (some q2)])::(q1,mapObj M1 c1)::(q2,mapObj M2 c2)::LM)++(D1++(Dc++D))))) w0 w1)=>behind_spec hMet0 (Lives.mk (Step.dropL (L1:=L1) (Step.dropL (L1:=LO) h))) hmet.len hmet.sub (partsM_len (fitS k l) _) hml hmet.head (hG he0)
  have heq:=fun{w1:World}{v2:Value}{L2:OL} (h:Step (List.map (·.1) D) (L2++(LO++(L1++(((bm,blk 132 [vM,.map (some q1),.map (some q2)])::(q1,mapObj M1 c1)::(q2,mapObj M2 c2)::LM)++(D1++(Dc++D)))))) w0 w1) (h2:OwnSl 44 32 v2 of.length (digsL of) L2)=>eqD_spec (w0:=w1) (l:=of) (m:=digsK k l) (Dgs.own h2 (fun p hp=>h.has p (mem_append_left _ hp)) hof32 (by omega)) (Dgs.own (by rw[hdn];exact hO) (fun p hp=>h.has p (by simp[hp])) (digsK_32 hk) (by omega))
  have hfin2:∀{L2:OL}{w:World},Step (List.map (·.1) D) (L2++(LO++(L1++(((bm,blk 132 [vM,.map (some q1),.map (some q2)])::(q1,mapObj M1 c1)::(q2,mapObj M2 c2)::LM)++(D1++(Dc++D)))))) w0 w→Step [] [] w0 w:=fun {L2 w} h=>hfin (Y:=L2++(LO++(L1++(((bm,blk 132 [vM,.map (some q1),.map (some q2)])::(q1,mapObj M1 c1)::(q2,mapObj M2 c2)::LM)++(D1++Dc))))) (by simpa only[append_assoc] using h)
  by_cases hod:of=digsK k l
  ·rw[decide_eq_true hod] at heq⊢
   have heqb:=fun{w1:World}{L2:OL} (h:Step (List.map (·.1) D) (L2++(LO++(L1++(((bm,blk 132 [vM,.map (some q1),.map (some q2)])::(q1,mapObj M1 c1)::(q2,mapObj M2 c2)::LM)++(D1++(Dc++D)))))) w0 w1)=>eqB_spec (w0:=w1) (hHl.sl fun p hp=>h.has p (by simp only[mem_append] at hp⊢;rcases hp with hp | hp | hp <;> simp[hp])) (hHt.sl fun p hp=>h.has p (by simp[hp]))
   refine cq<|CW.any (A:=fun w=>w.heap[bm]?=some (blk 132 [vM,.map (some q1),.map (some q2)])∧w.heap[q1]?=some (mapObj M1 c1)∧At w bu (0+(B.length - 1)*32) (u8s d)∧w.cell? ⟨bb,bo+(B.length - 1)*1,none⟩=some tl.1) (C:=fun w=>w.heap[bm]?=some (blk 132 [vM,.map (some q1),.map (some q2)])∧w.heap[q1]?=some (mapObj M1 c1)∧At w bu (0+(B.length - 1)*32) (u8s d)∧w.cell? ⟨bb,bo+(B.length - 1)*1,none⟩=some tl.1) 1000000 29 mixedP rfl ?_
   replace hs:=hs.drew
   refine aM 0 rfl<|aV 1 rfl (fun w hs=>run_bT (run_eql rfl rfl) (by exact he0))<|aM 2 rfl<|AL.valY 3 rfl (by kernel_rfl) rfl rfl rfl rfl (fun w hs=>run_move) ?_
   refine AL.valY 5 rfl (by kernel_rfl) rfl rfl rfl rfl (fun w hs=>run_move) ?_
   refine AL.one 4 (by kernel_rfl) rfl (by exact hK hs (fun p hp=>hp)) (by exact hK hs (fun p hp=>hp)) ?_
   refine wy<|wE rfl (run_call en70 rfl rfl) (hbeh hs) ?_
   rintro e w ⟨vo,Lo,rfl,hvo,hq⟩
   refine⟨_,rfl,?_⟩
   replace hs:=Step.call0 hs hq
   refine wZ<|⟨rfl,?_⟩
   refine AL.one 6 (by kernel_rfl) rfl (by exact hK hs (fun p hp=>mem_append_right _ hp)) (by exact hK hs (fun p hp=>mem_append_right _ hp)) ?_
   refine wy<|wE rfl (run_call en141 rfl rfl) (heq hs hvo) ?_
   rintro e w ⟨rfl,hq2⟩
   refine⟨_,rfl,?_⟩
   replace hs:=hs.callE hq2
   refine wZ<|⟨rfl,?_⟩
   refine aV 7 rfl (fun w hs=>run_pickT rfl)<|aM 8 rfl<|AL.valY 9 rfl (by kernel_rfl) rfl rfl rfl rfl (fun w hs=>run_move) ?_
   refine AL.valY 10 rfl (by kernel_rfl) rfl rfl rfl rfl (fun w hs=>run_nilCheck rfl) ?_
   refine AL.valY 11 rfl (by kernel_rfl) rfl rfl rfl rfl (fun w hs=>run_field (o':=1) u132 rfl ty129 rfl rfl rfl) ?_
   refine AL.valY 12 rfl (by kernel_rfl) rfl rfl rfl rfl (fun w hs=>run_load1 ty129 rfl ((At.of_blk hs.1).cell (j:=1) rfl)) ?_
   refine AL.valY 13 rfl (by kernel_rfl) rfl rfl rfl rfl (fun w hs=>run_move) ?_
   refine AL.valY 14 rfl (by kernel_rfl) rfl rfl rfl rfl (fun w hs=>run_move) ?_
   refine AL.valY 15 rfl (by kernel_rfl) rfl rfl rfl rfl (fun w hs=>run_lenSl u35 rfl) ?_
   refine AL.valY 16 rfl (by kernel_rfl) rfl rfl rfl rfl (fun w hs=>run_sub (c:=((B.length - 1:Nat):Int)) rfl rfl (by omega) (by omega)) ?_
   refine AL.valY 17 rfl (by kernel_rfl) rfl rfl rfl rfl (fun w hs=>run_ixSlN u35 ty44 rfl rfl (by omega)) ?_
   refine AL.valY 18 rfl (by kernel_rfl) rfl rfl rfl rfl (fun w hs=>run_loadN ty44 rfl hdl hs.2.2.1) ?_
   refine AL.valY 19 rfl (by kernel_rfl) rfl rfl rfl rfl (fun w hs=>run_lookupV u129 (zBytes _) hBM.keys hd32 hu rfl rfl hs.2.1) ?_
   refine AL.valY 20 rfl (by kernel_rfl) rfl rfl rfl rfl (fun w hs=>run_move) ?_
   refine AL.valY 21 rfl (by kernel_rfl) rfl rfl rfl rfl (fun w hs=>run_move) ?_
   refine AL.valY 22 rfl (by kernel_rfl) rfl rfl rfl rfl (fun w hs=>run_lenSl u24 rfl) ?_
   refine AL.valY 23 rfl (by kernel_rfl) rfl rfl rfl rfl (fun w hs=>run_sub (c:=((B.length - 1:Nat):Int)) rfl rfl (by omega) (by omega)) ?_
   refine AL.valY 24 rfl (by kernel_rfl) rfl rfl rfl rfl (fun w hs=>run_ixSlN u24 ty76 rfl rfl (by omega)) ?_
   refine AL.valY 25 rfl (by kernel_rfl) rfl rfl rfl rfl (fun w hs=>run_load1 ty76 rfl (hs.2.2.2)) ?_
   refine AL.one 26 (by kernel_rfl) rfl (by exact hK hs (fun p hp=>mem_append_right _ hp)) (by exact hK hs (fun p hp=>mem_append_right _ hp)) ?_
   refine wy<|wE rfl (run_call en92 rfl rfl) (heqb hs) ?_
   rintro e w ⟨rfl,hq3⟩
   refine⟨_,rfl,?_⟩
   replace hs:=hs.callE hq3
   refine wZ<|⟨rfl,?_⟩
   refine aV 27 rfl (fun w hs=>run_pickT rfl)<|aA 28 rfl<|AL.end (by kernel_rfl) (by exact hK hs (fun p hp=>mem_append_right _ hp)) (by exact hK hs (fun p hp=>mem_append_right _ hp)) ?_
   refine CW.ret ?_
   refine fin_ret1 rfl ?_
   exact⟨rfl,hfin2 hs⟩
  ·rw[decide_eq_false hod] at heq⊢
   refine cq<|CW.any (A:=fun w=>w.heap[bm]?=some (blk 132 [vM,.map (some q1),.map (some q2)])∧w.heap[q1]?=some (mapObj M1 c1)∧At w bu (0+(B.length - 1)*32) (u8s d)∧w.cell? ⟨bb,bo+(B.length - 1)*1,none⟩=some tl.1) (C:=fun w=>w.heap[bm]?=some (blk 132 [vM,.map (some q1),.map (some q2)])∧w.heap[q1]?=some (mapObj M1 c1)∧At w bu (0+(B.length - 1)*32) (u8s d)∧w.cell? ⟨bb,bo+(B.length - 1)*1,none⟩=some tl.1) 1000000 29 mixedP rfl ?_
   replace hs:=hs.drew
   refine aM 0 rfl<|aV 1 rfl (fun w hs=>run_bT (run_eql rfl rfl) (by exact he0))<|aM 2 rfl<|AL.valY 3 rfl (by kernel_rfl) rfl rfl rfl rfl (fun w hs=>run_move) ?_
   refine AL.valY 5 rfl (by kernel_rfl) rfl rfl rfl rfl (fun w hs=>run_move) ?_
   refine AL.one 4 (by kernel_rfl) rfl (by exact hK hs (fun p hp=>hp)) (by exact hK hs (fun p hp=>hp)) ?_
   refine wy<|wE rfl (run_call en70 rfl rfl) (hbeh hs) ?_
   rintro e w ⟨vo,Lo,rfl,hvo,hq⟩
   refine⟨_,rfl,?_⟩
   replace hs:=Step.call0 hs hq
   refine wZ<|⟨rfl,?_⟩
   refine AL.one 6 (by kernel_rfl) rfl (by exact hK hs (fun p hp=>mem_append_right _ hp)) (by exact hK hs (fun p hp=>mem_append_right _ hp)) ?_
   refine wy<|wE rfl (run_call en141 rfl rfl) (heq hs hvo) ?_
   rintro e w ⟨rfl,hq2⟩
   refine⟨_,rfl,?_⟩
   replace hs:=hs.callE hq2
   refine wZ<|⟨rfl,?_⟩
   refine aV 7 rfl (fun w hs=>run_pickT rfl)<|aM 8 rfl<|AL.valN 9 rfl (by kernel_rfl) rfl rfl rfl (.inl rfl) ?_
   refine AL.valN 10 rfl (by kernel_rfl) rfl rfl rfl (.inl rfl) ?_
   refine AL.valN 11 rfl (by kernel_rfl) rfl rfl rfl (.inl rfl) ?_
   refine AL.valN 12 rfl (by kernel_rfl) rfl rfl rfl (.inl rfl) ?_
   refine AL.valN 13 rfl (by kernel_rfl) rfl rfl rfl (.inl rfl) ?_
   refine AL.valN 14 rfl (by kernel_rfl) rfl rfl rfl (.inl rfl) ?_
   refine AL.valN 15 rfl (by kernel_rfl) rfl rfl rfl (.inl rfl) ?_
   refine AL.valN 16 rfl (by kernel_rfl) rfl rfl rfl (.inl rfl) ?_
   refine AL.valN 17 rfl (by kernel_rfl) rfl rfl rfl (.inl rfl) ?_
   refine AL.valN 18 rfl (by kernel_rfl) rfl rfl rfl (.inl rfl) ?_
   refine AL.valN 19 rfl (by kernel_rfl) rfl rfl rfl (.inl rfl) ?_
   refine AL.valN 20 rfl (by kernel_rfl) rfl rfl rfl (.inl rfl) ?_
   refine AL.valN 21 rfl (by kernel_rfl) rfl rfl rfl (.inl rfl) ?_
   refine AL.valN 22 rfl (by kernel_rfl) rfl rfl rfl (.inl rfl) ?_
   refine AL.valN 23 rfl (by kernel_rfl) rfl rfl rfl (.inl rfl) ?_
   refine AL.valN 24 rfl (by kernel_rfl) rfl rfl rfl (.inl rfl) ?_
   refine AL.valN 25 rfl (by kernel_rfl) rfl rfl rfl (.inl rfl) ?_
   refine AL.valN 26 rfl (by kernel_rfl) rfl rfl rfl (.inl rfl) ?_
   refine aV 27 rfl (fun w hs=>run_pickF rfl)<|aA 28 rfl<|AL.end (by kernel_rfl) (by exact hK hs (fun p hp=>mem_append_right _ hp)) (by exact hK hs (fun p hp=>mem_append_right _ hp)) ?_
   refine CW.ret ?_
   refine fin_ret1 rfl ?_
   exact⟨rfl,hfin2 hs⟩
end
def putRun (t:AS):List (List UInt8)→Int×AS
 | []=>(0,t)
 | x::l=>if (t.put x).2.1≠0 then ((((t.put x).2.1:Nat):Int),(t.put x).2.2) else putRun (t.put x).2.2 l
theorem putRun_bad{t:AS}{x:U8}{l:List (List UInt8)} (h:(t.put x).2.1≠0):putRun t (x::l)=((((t.put x).2.1:Nat):Int),(t.put x).2.2):=by rw[putRun,if_pos h]
theorem putRun_ok{t:AS}{x:U8}{l:List (List UInt8)} (h:(t.put x).2.1=0):putRun t (x::l)=putRun (t.put x).2.2 l:=by rw[putRun,if_neg (fun hh=>hh h)]
def unpR (s:AS) (bs:(List UInt8)) (of:List (List UInt8)):(List UInt8)×Int×AS:=
 if 4194304<bs.length then (zD,2,s) else if (upP s.k bs).1≠0 then (zD,(upP s.k bs).1,s) else if fitB s.k (upP s.k bs).2 of=false then (zD,81,s)
 else (if (putRun s (upP s.k bs).2).1=0 then lastK s.k (upP s.k bs).2 else zD,putRun s (upP s.k bs).2)
section
variable{s:AS}{bs:U8}{of:List (List UInt8)}
theorem unpR_long (h:4194304<bs.length):unpR s bs of=(zD,2,s):=if_pos h
theorem unpR_bad (h:¬4194304<bs.length) (h2:(upP s.k bs).1≠0):unpR s bs of=(zD,(upP s.k bs).1,s):=by rw[unpR,if_neg h,if_pos h2]
theorem unpR_not (h:¬4194304<bs.length) (h2:(upP s.k bs).1=0) (h3:fitB s.k (upP s.k bs).2 of=false):unpR s bs of=(zD,81,s):=by rw[unpR,if_neg h,if_neg (fun hh=>hh h2),if_pos h3]
theorem unpR_go (h:¬4194304<bs.length) (h2:(upP s.k bs).1=0) (h3:fitB s.k (upP s.k bs).2 of=true):unpR s bs of=(if (putRun s (upP s.k bs).2).1=0 then lastK s.k (upP s.k bs).2 else zD,putRun s (upP s.k bs).2):=by
 rw[unpR,if_neg h,if_neg (fun hh=>hh h2),if_neg (by rw[h3];decide)]
end
def GoF (k:Nat) (l gf of:List (List UInt8)) (kk:Nat):Prop:=(digsK k l).Nodup→(runs (fitS k l) rmG [rootS (lastK k l)] ws0).1=0→Goes (partsM (fitS k l) (runs (fitS k l) rmG [rootS (lastK k l)] ws0).2.m) [lastK k l] [] [] gf of kk
theorem goF_some (k:Nat) (hk:k≤32) (l:List (List UInt8)):∃gf of kk,GoF k l gf of kk:=by
 by_cases h:(runs (fitS k l) rmG [rootS (lastK k l)] ws0).1=0
 ·have hm:=runs_met (s:=fitS k l) (rm:=rmG) (d:=lastK k l) (t:=(runs (fitS k l) rmG [rootS (lastK k l)] ws0).2) (frontL_len hk) (by rw[←h])
  have ob:=hm.goes
  obtain⟨gf,of,kk,hG⟩:=ob
  exact⟨gf,of,kk,fun _ _=>hG⟩
 ·exact⟨[],[],0,fun _ h2=>absurd h2 h⟩
section
variable{bp N kk:Nat}{s:AS}{D L:OL}{v:Value}{bs:U8}{w0:World}{gf of:List (List UInt8)}
set_option maxHeartbeats 8000000 in
theorem unpack_spec (hR:PRep bp s D L) (ok:s.Ok) (hfew:s.Few N) (hN:N<1000000000) (hv:∀{w:World}{Y:OL},Step (List.map (·.1) (L++D)) Y w0 w→Sl w 1 v bs.length (u8s bs)) (hlen:bs.length≤9223372036854775807) (hG:GoF s.k (upP s.k bs).2 gf of kk) (hw:Lives (L++D) w0) :
  CP 42 #[pt bp,v] w0 fun e w'=>∃L' D',e=.returned (.tuple #[.agg (u8s (unpR s bs of).1).toArray,.int .i64 (unpR s bs of).2.1])∧PRep bp (unpR s bs of).2.2 (D'++D) L'∧Step (L.map (·.1)) (L'++D') w0 w':=by
 have hk1:=ok.k1
 have hk2:=ok.k2
 have hs:Step (List.map (·.1) (L++D)) (L++D) w0 w0:=hw
 have hzl:(u8s zD).length=32:=rfl
 have ob:=(hv hs).form
 obtain⟨va,vc,rfl⟩:=ob
 have hbl:=fun{w1:World} (h:Sl w1 1 (.slice va bs.length vc) bs.length (u8s bs)) (h2:bs.length≤4194304)=>blobs_spec w1 hk2 h h2
 have hbad:=fun h=>unpR_bad (s:=s) (bs:=bs) (of:=of) h
 have hnot:=fun h=>unpR_not (s:=s) (bs:=bs) (of:=of) h
 have hgo:=fun h=>unpR_go (s:=s) (bs:=bs) (of:=of) h
 have hupo:=upP_ok (k:=s.k) (bs:=bs)
 have ob:∃up,upP s.k bs=up:=⟨_,rfl⟩
 obtain⟨up,hup⟩:=ob
 simp only[hup] at hbl hbad hnot hgo hupo hG
 refine calls (n:=58) Tryz.func42 rfl rfl rfl ?_
 refine sr<|WL.alloc ty44 rfl hs (fun b4 w hs=>?_)
 refine wA<|wZ ?_
 replace hs:Step (List.map (·.1) (L++D)) ((b4,blk 44 (u8s zD))::(L++D)) w0 w:=hs
 by_cases hlong:4194304<bs.length
 ·rw[unpR_long hlong]
  refine cq<|sr<|wm<|wL u76 rfl<|xT<|wZ<|CW.cond rfl (fun h=>?_) (fun h=>?_)
  ·refine sr<|wV (run_build rfl (bld_dig _))<|WL.storeAll ty44 rfl rfl ((hzl)) ((Cells1.u8s _)) hs (by rfl) (fun w hs=>?_)
   refine wA<|wZ<|CW.ret ?_
   refine fin_cellTmp rfl rfl (run_loadVarN ty44 hzl hs.a0) ?_
   exact⟨L,[],rfl,hR,Step.fin (M:=[]) hw hs.tail⟩
  ·cases h
 refine cq<|sr<|wm<|wL u76 rfl<|xF<|wZ<|CW.cond rfl (fun h=>?_) (fun h=>?_)
 ·cases h
 refine ck<|sr<|wm<|wE rfl (run_call en69 rfl rfl) (width_abs hR ok (Lives.mk hs.tail)) ?_
 rintro e w ⟨rfl,hq⟩
 refine⟨_,rfl,?_⟩
 replace hs:=hs.callE hq
 refine wm<|wE rfl (run_call en96 rfl rfl) (hbl (hv hs) (by omega)) ?_
 rintro e w ⟨u,B,Lv,G,rfl,hB,hq⟩
 refine⟨_,rfl,?_⟩
 replace hs:=Step.call0 hs hq
 refine wm<|wx rfl rfl<|wx rfl rfl<|wA<|wA<|wZ ?_
 have ob:∃Z,(Lv++G)++D=Z:=⟨_,rfl⟩
 obtain⟨Z,hZ⟩:=ob
 replace hs:Step (List.map (·.1) (L++D)) ((b4,blk 44 (u8s zD))::(L++Z)) w0 w:=by
  rw[←hZ]
  exact hs.perm (by classical exact perm_iff_count.2 fun x=>by simp only[count_append,count_cons];omega)
 have hend:∀{t:AS}{Lc Dc:OL}{w:World},PRep bp t (Dc++Z) Lc→Step (List.map (·.1) (L++D)) (Lc++(Dc++Z)) w0 w→∃L' D',PRep bp t (D'++D) L'∧Step (L.map (·.1)) (L'++D') w0 w:=fun {t Lc Dc w} hP h=>⟨Lc,Dc++(Lv++G),by rw[append_assoc,hZ];exact hP,Step.fin (M:=[]) hw (by show Step (List.map (·.1) (L++D)) (Lc++((Dc++(Lv++G))++D)) w0 w;rw[append_assoc Dc,hZ];exact h)⟩
 replace hbad:=hbad hlong
 replace hnot:=hnot hlong
 replace hgo:=hgo hlong
 have hDZ:∀p∈D,p∈Z:=fun p hp=>hZ▸mem_append_right _ hp
 by_cases he:up.1≠0
 ·rw[hbad he]
  refine cq<|sr<|wm<|wV (run_bT (run_neq rfl rfl) (by exact he))<|wZ<|CW.cond rfl (fun h=>?_) (fun h=>?_)
  ·refine sr<|wV (run_build rfl (bld_dig _))<|wm<|WL.storeAll ty44 rfl rfl ((hzl)) ((Cells1.u8s _)) hs (by rfl) (fun w hs=>?_)
   refine wA<|wZ<|CW.ret ?_
   refine fin_cellTmp rfl rfl (run_loadVarN ty44 hzl hs.a0) ?_
   have ob:=hend (Dc:=[]) (hR.mono hDZ) hs.tail
   obtain⟨L',D',h1,h2⟩:=ob
   exact⟨L',D',rfl,h1,h2⟩
  ·cases h
 have he0:up.1=0:=by simpa using he
 have ob:=hB he0
 obtain⟨hvB,hBo,hBl⟩:=ob
 have ob:=hupo he0
 obtain⟨hne,hl6,hsum,hl1⟩:=ob
 have ob:∃l,up.2=l:=⟨_,rfl⟩
 obtain⟨l,hl⟩:=ob
 rw[hl] at hne hl6 hsum hl1 hnot hgo hG hBl
 have hll:l.length=B.length:=by rw[←hBl,length_map]
 have hB0:0<B.length:=by rw[←hll];exact length_pos_iff.2 hne
 have hft:=fun{w1:World} (h:Lives (Lv++G) w1)=>fits8_spec (v:=u) (B:=B) (k:=s.k) (kk:=kk) (gf:=gf) (of:=of) hk1 hk2 ⟨Lv,hvB,fun p hp=>mem_append_left _ hp⟩ (hBo.mono fun p hp=>mem_append_right _ hp) hB0 (by omega) (by rw[hBl];omega) (by rw[hBl];exact hG) h
 rw[hBl] at hft
 have hLG:∀{A:OL}{w:World},Step (List.map (·.1) (L++D)) (A++Z) w0 w→Lives (Lv++G) w:=fun h=>Lives.mk (Step.dropR (L2:=D) (Step.dropL (by rw[hZ];exact h)))
 have hvz:∀{A:OL}{w:World},Step (List.map (·.1) (L++D)) (A++Z) w0 w→Sl w 1 u B.length (B.map fun t=>t.1):=fun h=>hvB.slW fun p hp=>(hLG h).has p (mem_append_left _ hp)
 have ob:∃tl,B[B.length - 1]?=some tl:=⟨_,getElem?_eq_getElem (by omega)⟩
 obtain⟨tl,htl⟩:=ob
 have ob:=sl_at1 (c:=fun t:Value×List UInt8=>t.1) (hvz (A:=(b4,blk 44 (u8s zD))::L) hs) htl
 obtain⟨bb,bo,bc,hbe,_⟩:=ob
 subst hbe
 by_cases hfit:fitB s.k l of=false
 ·rw[hnot he0 hfit]
  rw[hfit] at hft
  refine cq<|sr<|wm<|wV (run_bF (run_neq rfl rfl) (by exact he))<|wZ<|CW.cond rfl (fun h=>?_) (fun h=>?_)
  ·cases h
  refine ck<|cq<|sr<|wm<|wE rfl (run_call en69 rfl rfl) (width_abs (hR.mono hDZ) ok (Lives.mk hs.tail)) ?_
  rintro e w ⟨rfl,hq⟩
  refine⟨_,rfl,?_⟩
  replace hs:=hs.callE hq
  refine wm<|wE rfl (run_call en97 rfl rfl) (hft (hLG (A:=_::L) hs)) ?_
  rintro e w ⟨rfl,hq⟩
  refine⟨_,rfl,?_⟩
  replace hs:=hs.callE hq
  refine wN rfl<|wZ<|CW.cond rfl (fun h=>?_) (fun h=>?_)
  ·refine sr<|wV (run_build rfl (bld_dig _))<|WL.storeAll ty44 rfl rfl ((hzl)) ((Cells1.u8s _)) hs (by rfl) (fun w hs=>?_)
   refine wA<|wZ<|CW.ret ?_
   refine fin_cellTmp rfl rfl (run_loadVarN ty44 hzl hs.a0) ?_
   have ob:=hend (Dc:=[]) (hR.mono hDZ) hs.tail
   obtain⟨L',D',h1,h2⟩:=ob
   exact⟨L',D',rfl,h1,h2⟩
  ·cases h
 have hfit:fitB s.k l of=true:=by simpa using hfit
 rw[hgo he0 hfit]
 rw[hfit] at hft
 have ob:∃GR,putRun s l=GR:=⟨_,rfl⟩
 obtain⟨GR,hGR⟩:=ob
 rw[hGR]
 refine cq<|sr<|wm<|wV (run_bF (run_neq rfl rfl) (by exact he))<|wZ<|CW.cond rfl (fun h=>?_) (fun h=>?_)
 ·cases h
 refine ck<|cq<|sr<|wm<|wE rfl (run_call en69 rfl rfl) (width_abs (hR.mono hDZ) ok (Lives.mk hs.tail)) ?_
 rintro e w ⟨rfl,hq⟩
 refine⟨_,rfl,?_⟩
 replace hs:=hs.callE hq
 refine wm<|wE rfl (run_call en97 rfl rfl) (hft (hLG (A:=_::L) hs)) ?_
 rintro e w ⟨rfl,hq⟩
 refine⟨_,rfl,?_⟩
 replace hs:=hs.callE hq
 refine wN rfl<|wZ<|CW.cond rfl (fun h=>?_) (fun h=>?_)
 ·cases h
 refine ck<|cq<|sr<|wm<|wL u24 rfl<|wm<|wZ<|cB<|CW.loop (fun z f w'=>∃(i:Nat) (t:AS) (Lc Dc:OL),i≤B.length∧z=B.length - i∧t.Ok∧t.k=s.k∧t.Few (N+i)∧putRun t (l.drop i)=GR∧PRep bp t (Dc++Z) Lc∧Step (List.map (·.1) (L++D)) ((b4,blk 44 (u8s zD))::(Lc++(Dc++Z))) w0 w'∧Holds f [(0,pt bp),(4,pt b4),(6,.slice (some ⟨bb,bo,none⟩) B.length bc),(33,.slice (some ⟨bb,bo,none⟩) B.length bc),(34,.int .i64 (B.length:Nat)),(35,.int .i64 (i:Nat))]) (m:=B.length) ?_ ?_
 ·exact⟨0,s,L,[],Nat.zero_le _,rfl,ok,rfl,hfew,hGR,hR.mono hDZ,hs,rfl,rfl,rfl,rfl,rfl,rfl,trivial⟩
 clear hs
 rintro z f w ⟨i,t,Lc,Dc,hil,rfl,oki,hki,fewi,hGi,hP,hs,hf⟩
 have ob:=hf.chain
 obtain⟨g,rfl⟩:=ob
 by_cases hlt:i<B.length
 ·have ob:∃y,B[i]?=some y:=⟨_,getElem?_eq_getElem hlt⟩
  obtain⟨y,hy⟩:=ob
  have ob:=hBo y (mem_of_getElem? hy)
  obtain⟨⟨LD,hvt,hLD⟩,htl1⟩:=ob
  have ob:∃x,y.2=x:=⟨_,rfl⟩
  obtain⟨x,hxe⟩:=ob
  rw[hxe] at hvt htl1
  have hx:l[i]?=some x:=by rw[←hBl,getElem?_map,hy,←hxe];rfl
  have hdrop:l.drop i=x::l.drop (i+1):=by
   have ob:=List.getElem?_eq_some_iff.1 hx
   obtain⟨hlt,rfl⟩:=ob
   exact drop_eq_getElem_cons hlt
  rw[hdrop] at hGi
  have ob:=hvt.form
  obtain⟨ta,tc,hte⟩:=ob
  have hcell:∀{A:OL}{w:World},Step (List.map (·.1) (L++D)) (A++Z) w0 w→w.cell? ⟨bb,bo+i*1,none⟩=some (.slice ta x.length tc):=fun h=>by
   have ob:=sl_at1 (c:=fun t:Value×List UInt8=>t.1) (hvz h) hy
   obtain⟨b2,o2,c2,he,hc⟩:=ob
   cases he
   rw[hc,hte]
  have hHt:Held (Dc++Z) (.slice ta x.length tc) x:=⟨LD,hte▸hvt,fun p hp=>mem_append_right _ (by rw[←hZ];exact mem_append_left _ (mem_append_right _ (hLD p hp)))⟩
  have hput:=fun{w1:World} (h:Lives (Lc++(Dc++Z)) w1)=>put_abs (w0:=w1) (y:=x) hP oki fewi (by omega) h (hHt.sl fun p hp=>h.has p (mem_append_right _ hp)) hHt.room (.inr (Own.outside (A:=[]) (L:=Lc) (D:=Dc++Z) h hHt)) (by omega)
  have hp32:=put_32 oki x
  have ok2:=oki.put x
  have few2:=fewi.put x
  have hk3:=put_k t x
  have hbad:=putRun_bad (t:=t) (x:=x) (l:=l.drop (i+1))
  have hgo:=putRun_ok (t:=t) (x:=x) (l:=l.drop (i+1))
  have ob:∃pr,t.put x=pr:=⟨_,rfl⟩
  obtain⟨pr,hpr⟩:=ob
  rw[hpr] at hp32 ok2 few2 hbad hgo hk3
  simp only[hpr] at hput
  have hpl:(u8s pr.1).length=32:=by rw[u8s,length_map,hp32]
  refine sr<|lT<|wZ<|cq<|CW.cond rfl (fun h=>?_) (fun h=>?_)
  ·refine ck<|cq<|cB<|sr<|wI u24 ty76 rfl rfl<|wl ty76 rfl (hcell (A:=_::(Lc++Dc)) (show Step _ (_::((Lc++Dc)++Z)) w0 w from by rw[append_assoc];exact hs))<|wA<|wZ<|sr<|wm<|wm<|wE rfl (run_call en36 rfl rfl) (hput (Lives.mk hs.tail)) ?_
   rintro e w ⟨L2,D2,rfl,hP2,hq⟩
   refine⟨_,rfl,?_⟩
   replace hs:=Own.put (A:=[(b4,blk 44 (u8s zD))]) (L:=Lc) hs hq
   refine wm<|wx rfl rfl<|wx rfl rfl<|WL.alloc ty44 rfl hs (fun b10 w hs=>?_)
   refine WL.storeAll ty44 rfl rfl ((hpl)) ((Cells1.u8s _)) hs (by rfl) (fun w hs=>?_)
   refine wA<|wZ ?_
   replace hs:=hs.tail
   by_cases hpe:pr.2.1≠0
   ·rw[hbad hpe] at hGi
    refine sr<|wm<|wV (run_bT (run_neq rfl rfl) (by exact fun h=>hpe (Int.ofNat.inj h)))<|wZ<|CW.cond rfl (fun h=>?_) (fun h=>?_)
    ·refine sr<|wV (run_build rfl (bld_dig _))<|wm<|WL.storeAll ty44 rfl rfl ((hzl)) ((Cells1.u8s _)) hs (by rfl) (fun w hs=>?_)
     refine wA<|wZ<|CW.ret ?_
     refine fin_cellTmp rfl rfl (run_loadVarN ty44 hzl hs.a0) ?_
     have ob:=hend (Dc:=D2++Dc) (by rw[append_assoc];exact hP2) (by rw[append_assoc];exact hs.tail)
     obtain⟨L',D',h1,h2⟩:=ob
     rw[←hGi,if_neg (show ¬(((pr.2.1:Nat):Int)=0) from fun h=>hpe (Int.ofNat.inj h))]
     exact⟨L',D',rfl,h1,h2⟩
    ·cases h
   have hp0:pr.2.1=0:=by simpa using hpe
   rw[hgo hp0] at hGi
   refine sr<|wm<|wV (run_bF (run_neq rfl rfl) (by exact fun h=>h (congrArg Int.ofNat hp0)))<|wZ<|CW.cond rfl (fun h=>?_) (fun h=>?_)
   ·cases h
   refine ck<|cr<|wP ((i+1:Nat):Int)<|wm<|wZ<|(show _∧_ from⟨rfl,_,?_,i+1,pr.2.2,L2,D2++Dc,hlt,rfl,ok2,hk3.trans hki,few2,hGi,?_,?_,rfl,rfl,rfl,rfl,rfl,rfl,trivial⟩)
   ·omega
   ·rw[append_assoc];exact hP2
   ·rw[append_assoc];exact hs
  ·cases h
 ·obtain rfl:i=B.length:=by omega
  rw[←hll,drop_length] at hGi
  obtain rfl:(0,t)=GR:=hGi
  have ob:=hBo tl (mem_of_getElem? htl)
  obtain⟨⟨LD,hvt,hLD⟩,htl1⟩:=ob
  have ob:∃x,tl.2=x:=⟨_,rfl⟩
  obtain⟨x,hxe⟩:=ob
  rw[hxe] at hvt htl1
  have hlx:lastK s.k l=frontL x s.k:=by
   have h1:=last_get (l:=l) (by omega)
   rw[hll,←hBl,getElem?_map,htl] at h1
   rw[lastK,←hxe,←hBl,←Option.some.inj h1]
  have ob:=hvt.form
  obtain⟨ta,tc,hte⟩:=ob
  have hcell:∀{A:OL}{w:World},Step (List.map (·.1) (L++D)) (A++Z) w0 w→w.cell? ⟨bb,bo+(B.length - 1)*1,none⟩=some (.slice ta x.length tc):=fun h=>by
   have ob:=sl_at1 (c:=fun t:Value×List UInt8=>t.1) (hvz h) htl
   obtain⟨b2,o2,c2,he,hc⟩:=ob
   cases he
   rw[hc,hte]
  have hHt:Held (Dc++Z) (.slice ta x.length tc) x:=⟨LD,hte▸hvt,fun p hp=>mem_append_right _ (by rw[←hZ];exact mem_append_left _ (mem_append_right _ (hLD p hp)))⟩
  have hdig:=fun{w1:World} (h:Lives (Lc++(Dc++Z)) w1)=>digest_abs (w0:=w1) (y:=x) hP oki h (hHt.sl fun p hp=>h.has p (mem_append_right _ hp)) hHt.room (by omega)
  rw[hki,←hlx] at hdig
  have hd32:(lastK s.k l).length=32:=frontL_len hk2
  have ob:∃d,lastK s.k l=d:=⟨_,rfl⟩
  obtain⟨d,hd⟩:=ob
  rw[hd] at hdig hd32⊢
  have hdl:(u8s d).length=32:=by rw[u8s,length_map,hd32]
  refine sr<|lF<|wZ<|cq<|CW.cond rfl (fun h=>?_) (fun h=>?_)
  ·cases h
  refine CW.exit<|sr<|wm<|wm<|wm<|wL u24 rfl<|wS ((B.length - 1:Nat):Int)<|wI u24 ty76 rfl rfl<|wl ty76 rfl (hcell (A:=_::(Lc++Dc)) (show Step _ (_::((Lc++Dc)++Z)) w0 w from by rw[append_assoc];exact hs))<|wE rfl (run_call en91 rfl rfl) (hdig (Lives.mk hs.tail)) ?_
  rintro e w ⟨rfl,hq⟩
  refine⟨_,rfl,?_⟩
  replace hs:=hs.callE hq
  refine WL.storeAll ty44 rfl rfl ((hdl)) ((Cells1.u8s _)) hs (by rfl) (fun w hs=>?_)
  refine wA<|wZ<|CW.ret ?_
  refine fin_cellTmp rfl rfl (run_loadVarN ty44 hdl hs.a0) ?_
  have ob:=hend hP hs.tail
  obtain⟨L',D',h1,h2⟩:=ob
  exact⟨L',D',rfl,h1,h2⟩
end
def upE (k:Nat) (bs:(List UInt8)):Int:=if 4194304<bs.length then 2 else (upP k bs).1
def RdRes (k:Nat) (bs:(List UInt8)) (w0:World) (e:Ending) (w':World):Prop:=∃u B Lv G,e=.returned (.tuple #[u,.int .i64 (upE k bs)])∧(upE k bs=0→OwnSl 76 1 u B.length (cellsB B) Lv∧BOk G B∧B.map (·.2)=(upP k bs).2)∧Step [] (Lv++G) w0 w'
theorem RdRes.err{k:Nat}{bs:U8}{w0 w':World}{L:OL}{er:Int} (he:upE k bs=er) (hne:er≠0) (hs:Step [] L w0 w'):RdRes k bs w0 (.returned (.tuple #[.slice none 0 0,.int .i64 er])) w':=
 ⟨_,[],[],[],by rw[he],fun h=>absurd (he.symm.trans h) hne,hs.clear⟩
theorem RdRes.ok{k:Nat}{bs:U8}{w0 w':World}{u:Value}{B:BL}{Lv G:OL} (he:upE k bs=0) (hv:OwnSl 76 1 u B.length (cellsB B) Lv) (hB:BOk G B) (hl:B.map (·.2)=(upP k bs).2) (hs:Step [] (Lv++G) w0 w'):RdRes k bs w0 (.returned (.tuple #[u,.int .i64 0])) w':=
 ⟨u,B,Lv,G,by rw[he],fun _=>⟨hv,hB,hl⟩,hs⟩
theorem Step.u8{S:List Nat}{n p x:Nat×Obj}{Lx Lv LD:OL}{w w':World} (h:Step S (n::p::(Lx++(x::(Lv++LD)))) w w'):Step S (n::p::x::(Lv++(LD++Lx))) w w':=h.perm (by classical exact perm_iff_count.2 fun x=>by simp only[count_append,count_cons];omega)
theorem Step.u9{S:List Nat}{n p x y:Nat×Obj}{Lv X:OL}{w w':World} (h:Step S (n::p::x::y::(Lv++X)) w w'):Step S (Lv++(n::p::x::y::X)) w w':=h.perm (by classical exact perm_iff_count.2 fun x=>by simp only[count_append,count_cons];omega)
theorem Step.u10{S:List Nat}{n p x y:Nat×Obj}{Lv X:OL}{w w':World} (h:Step S (Lv++(n::p::x::y::X)) w w'):Step S (x::y::(Lv++X)) w w':=by
 have h2:Step S (n::p::x::y::(Lv++X)) w w':=h.perm (by classical exact perm_iff_count.2 fun x=>by simp only[count_append,count_cons];omega)
 exact h2.tail.tail
set_option maxHeartbeats 4000000 in
theorem readBR_spec{k:Nat}{bs:U8}{v:Value} (w0:World) (hk:k≤32) (hv:Sl w0 1 v bs.length (u8s bs)) (hroom:Room v) (hlen:bs.length≤9223372036854775807) :
  CP 45 #[.int .i64 (k:Nat),v] w0 (RdRes k bs w0):=by
 have hs:Step [] [] w0 w0:=Step.refl w0
 have ob:=hv.form
 obtain⟨a,c,rfl⟩:=ob
 by_cases hbig:4194304<bs.length
 ·have he:upE k bs=2:=if_pos hbig
  refine calls (n:=97) Tryz.func45 rfl rfl rfl ?_
  refine sr<|wA<|wA<|wZ<|cq<|sr<|wm<|wL u76 rfl<|xT<|wZ<|cT rfl<|cq ?_
  refine cr<|wA<|wA<|wZ<|CW.ret ?_
  refine fin_ret2 rfl ?_
  exact .err he (by decide) hs
 ·have he:upE k bs=(upP k bs).1:=if_neg hbig
  have herr:∀{er:Int},pkP k bs=.error er→upE k bs=er:=fun h=>by rw[he];unfold upP;rw[h]
  refine calls (n:=97) Tryz.func45 rfl rfl rfl ?_
  refine sr<|wA<|wA<|wZ<|cq<|sr<|wm<|wL u76 rfl<|xF<|wZ<|cF rfl<|ck<|cq ?_
  refine cr<|wm<|wV (run_build rfl (bld_rr _ _ _ _))<|WL.box (cs:=[.slice a bs.length c,.int .i64 0,.int .i64 0]) rfl rfl rfl hs (fun b18 w hs=>?_)
  refine wA<|wZ ?_
  generalize b18=b at *
  have hout:bs=[]∨Outside (.slice a bs.length c) [b]:=(Outside.newer hv hs (fun k hk=>by simpa using hk)).imp (fun e=>by simpa[u8s] using e) id
  replace hs:Step [] [RRB b (.slice a bs.length c) 0 0] w0 w:=hs
  have rd:∀{w:World}{p:Nat}{L:OL},Step [] (RRB b (.slice a bs.length c) p 0::L) w0 w→RrOk w b bs (.slice a bs.length c) p:=fun h=>⟨Step.own (L1:=[_]) h,hv.step0 h.clear,hout,hroom,by omega⟩
  cases h1:numP bs 0 with
  | error er=>
   have hne:er≠0:=by rcases numP_err h1 with h | h <;> omega
   refine sr<|wm<|wE rfl (run_call en99 rfl rfl) (readNum_at h1 _ (rd hs) (by omega)) ?_
   rintro e w ⟨rfl,hq⟩
   refine⟨_,rfl,?_⟩
   replace hs:=Step.call (L1:=[_]) hs hq
   refine WL.alloc ty188 rfl hs (fun b7 w hs=>?_)
   refine WL.storeAll ty188 rfl rfl ((rfl)) (itemV_c1 rfl) hs (by rfl) (fun w hs=>?_)
   refine wZ<|cq<|sr<|wm<|wn rfl<|wF 2 u186 rfl ty3 rfl<|wl ty3 rfl (hs.c1 rfl)<|wV (run_bT (run_neq rfl rfl) (by exact hne))<|wZ<|cT rfl<|cq<|CW.quiet mixedP (by kernel_rfl) hs ?_
   refine qm<|qn rfl<|qF 2 u186 rfl ty3 rfl<|qL ty3 rfl (fun w hs=>hs.c1 rfl)<|qA<|qA<|QL.nil (fun w hs=>?_)
   refine CW.ret ?_
   refine fin_ret2 rfl ?_
   exact .err (herr (by unfold pkP;rw[h1])) hne hs
  | ok tp=>
   obtain⟨t,p1⟩:=tp
   have hb1:=numP_ok h1
   refine sr<|wm<|wE rfl (run_call en99 rfl rfl) (readNum_at h1 _ (rd hs) (by omega)) ?_
   rintro e w ⟨rfl,hq⟩
   refine⟨_,rfl,?_⟩
   replace hs:=Step.call (L1:=[_]) hs hq
   refine WL.alloc ty188 rfl hs (fun b7 w hs=>?_)
   refine WL.storeAll ty188 rfl rfl ((rfl)) (itemV_c1 rfl) hs (by rfl) (fun w hs=>?_)
   refine wZ<|cq<|sr<|wm<|wn rfl<|wF 2 u186 rfl ty3 rfl<|wl ty3 rfl (hs.c1 rfl)<|nF<|wZ ?_
   by_cases ht:t=5
   ·subst ht
    refine cF rfl<|ck<|cq<|sr<|wF 1 u188 rfl ty3 rfl<|wl ty3 rfl (hs.c0 rfl)<|nF<|wZ ?_
    replace hs:Step [] [RRB b (.slice a bs.length c) p1 0] w0 w:=hs.tail
    cases h2:numP bs p1 with
    | error er=>
     have hne:er≠0:=by rcases numP_err h2 with h | h <;> omega
     refine cF rfl<|ck<|sr<|wm<|wE rfl (run_call en99 rfl rfl) (readNum_at h2 _ (rd hs) hb1.1) ?_
     rintro e w ⟨rfl,hq⟩
     refine⟨_,rfl,?_⟩
     replace hs:=Step.call (L1:=[_]) hs hq
     refine WL.alloc ty188 rfl hs (fun b8 w hs=>?_)
     refine WL.storeAll ty188 rfl rfl ((rfl)) (itemV_c1 rfl) hs (by rfl) (fun w hs=>?_)
     refine wZ<|cq<|sr<|wm<|wn rfl<|wF 2 u186 rfl ty3 rfl<|wl ty3 rfl (hs.c1 rfl)<|wV (run_bT (run_neq rfl rfl) (by exact hne))<|wZ<|cT rfl<|cq<|CW.quiet mixedP (by kernel_rfl) hs ?_
     refine qm<|qn rfl<|qF 2 u186 rfl ty3 rfl<|qL ty3 rfl (fun w hs=>hs.c1 rfl)<|qA<|qA<|QL.nil (fun w hs=>?_)
     refine CW.ret ?_
     refine fin_ret2 rfl ?_
     exact .err (herr (by unfold pkP;rw[h1];simp[h2])) hne hs
    | ok up=>
     obtain⟨u,p2⟩:=up
     have hb2:=numP_ok h2
     refine cF rfl<|ck<|sr<|wm<|wE rfl (run_call en99 rfl rfl) (readNum_at h2 _ (rd hs) hb1.1) ?_
     rintro e w ⟨rfl,hq⟩
     refine⟨_,rfl,?_⟩
     replace hs:=Step.call (L1:=[_]) hs hq
     refine WL.alloc ty188 rfl hs (fun b8 w hs=>?_)
     refine WL.storeAll ty188 rfl rfl ((rfl)) (itemV_c1 rfl) hs (by rfl) (fun w hs=>?_)
     refine wZ<|cq<|sr<|wm<|wn rfl<|wF 2 u186 rfl ty3 rfl<|wl ty3 rfl (hs.c1 rfl)<|nF<|wZ ?_
     by_cases hu:u=k
     ·refine cF rfl<|ck<|cq<|sr<|wF 1 u188 rfl ty3 rfl<|wl ty3 rfl (hs.c0 rfl)<|wm<|nF<|wZ ?_
      subst hu
      replace hs:Step [] [RRB b (.slice a bs.length c) p2 0] w0 w:=hs.tail
      cases h3:numP bs p2 with
      | error er=>
       have hne:er≠0:=by rcases numP_err h3 with h | h <;> omega
       refine cF rfl<|ck<|sr<|wm<|wE rfl (run_call en99 rfl rfl) (readNum_at h3 _ (rd hs) hb2.1) ?_
       rintro e w ⟨rfl,hq⟩
       refine⟨_,rfl,?_⟩
       replace hs:=Step.call (L1:=[_]) hs hq
       refine WL.alloc ty188 rfl hs (fun b9 w hs=>?_)
       refine WL.storeAll ty188 rfl rfl ((rfl)) (itemV_c1 rfl) hs (by rfl) (fun w hs=>?_)
       refine wZ<|cq<|sr<|wm<|wn rfl<|wF 2 u186 rfl ty3 rfl<|wl ty3 rfl (hs.c1 rfl)<|wV (run_bT (run_neq rfl rfl) (by exact hne))<|wZ<|cT rfl<|cq<|CW.quiet mixedP (by kernel_rfl) hs ?_
       refine qm<|qn rfl<|qF 2 u186 rfl ty3 rfl<|qL ty3 rfl (fun w hs=>hs.c1 rfl)<|qA<|qA<|QL.nil (fun w hs=>?_)
       refine CW.ret ?_
       refine fin_ret2 rfl ?_
       exact .err (herr (by unfold pkP;rw[h1];simp[h2,h3])) hne hs
      | ok nq=>
       obtain⟨n,q0⟩:=nq
       have hb3:=numP_ok h3
       refine cF rfl<|ck<|sr<|wm<|wE rfl (run_call en99 rfl rfl) (readNum_at h3 _ (rd hs) hb2.1) ?_
       rintro e w ⟨rfl,hq⟩
       refine⟨_,rfl,?_⟩
       replace hs:=Step.call (L1:=[_]) hs hq
       refine WL.alloc ty188 rfl hs (fun b9 w hs=>?_)
       refine WL.storeAll ty188 rfl rfl ((rfl)) (itemV_c1 rfl) hs (by rfl) (fun w hs=>?_)
       refine wZ<|cq<|sr<|wm<|wn rfl<|wF 2 u186 rfl ty3 rfl<|wl ty3 rfl (hs.c1 rfl)<|nF<|wZ ?_
       by_cases hn:n=0∨65536<n
       ·have hp:pkP u bs=.error 81:=by unfold pkP;rw[h1];simp[h2,h3,hn]
        rcases hn with rfl | hn
        ·refine cF rfl<|ck<|cq<|sr<|wF 1 u188 rfl ty3 rfl<|wl ty3 rfl (hs.c0 rfl)<|lT<|wm<|wz<|wz<|wz<|pT<|wZ ?_
         refine cT rfl<|sr<|wA<|wA<|wZ<|CW.ret ?_
         refine fin_ret2 rfl ?_
         exact .err (herr hp) (by decide) hs
        ·refine cF rfl<|ck<|cq<|sr<|wF 1 u188 rfl ty3 rfl<|wl ty3 rfl (hs.c0 rfl)<|wV (run_bF (run_lss rfl rfl) (by show ¬((n:Int)<1);omega))<|wm<|wy<|wF 1 u188 rfl ty3 rfl<|wy<|wl ty3 rfl (hs.c0 rfl)<|wy<|wV (run_bT (run_gtr rfl rfl) (by show((n:Int) > 65536);omega))<|pF<|wZ ?_
         refine cT rfl<|sr<|wA<|wA<|wZ<|CW.ret ?_
         refine fin_ret2 rfl ?_
         exact .err (herr hp) (by decide) hs
       ·have hp:pkP u bs=blbsP bs n q0:=by unfold pkP;rw[h1];simp[h2,h3,hn]
        have hn1:¬((n:Int)<1):=by omega
        have hn2:¬((n:Int) > 65536):=by omega
        refine cF rfl<|ck<|cq<|sr<|wF 1 u188 rfl ty3 rfl<|wl ty3 rfl (hs.c0 rfl)<|wV (run_bF (run_lss rfl rfl) (by exact hn1))<|wm<|wy<|wF 1 u188 rfl ty3 rfl<|wy<|wl ty3 rfl (hs.c0 rfl)<|wy<|wV (run_bF (run_gtr rfl rfl) (by exact hn2))<|pF<|wZ ?_
        refine cF rfl<|ck<|sr<|wA<|wZ<|cq<|sr<|wA<|wZ ?_
        replace hs:Step [] (RRB b (.slice a bs.length c) q0 0::(b9,blk 188 (itemV 1 n (.slice none 0 0)))::([]++[])) w0 w:=hs.swap
        refine cB<|CW.loop (fun zz f w'=>∃(i q:Nat) (B:BL) (v:Value) (Lv G:OL),i≤n∧zz=n - i∧q≤bs.length∧B.length=i∧preB (B.map (·.2)) (blbsP bs (n - i) q)=blbsP bs n q0∧BOk G B∧OwnSl 76 1 v B.length (cellsB B) Lv∧Step [] (RRB b (.slice a bs.length c) q 0::(b9,blk 188 (itemV 1 n (.slice none 0 0)))::(Lv++G)) w0 w'∧Holds f [(6,pt b),(9,pt b9),(10,v),(11,.int .i64 (i:Nat))]) (m:=n) ?_ ?_
        ·exact⟨0,q0,[],_,[],[],Nat.zero_le _,rfl,hb3.1,rfl,preB_nil _,(fun t ht=>by cases ht),OwnSl.nil _ _,hs,rfl,rfl,rfl,rfl,trivial⟩
        clear hs
        rintro zz f w ⟨i,q,B,v,Lv,G,hi,rfl,hqb,hBi,hpre,hBo,hvB,hs,hf⟩
        have ob:=hvB.form
        obtain⟨va,vc,rfl⟩:=ob
        have ob:=hf.chain
        obtain⟨g,rfl⟩:=ob
        have hnb:n≤65536:=by omega
        by_cases hlt:i<n
        ·refine cq<|sr<|wm<|wF 1 u188 rfl ty3 rfl<|wl ty3 rfl (hs.c1 rfl)<|lT<|wZ<|CW.cond rfl (fun h=>?_) (fun h=>?_)
         ·rw[show n - i=(n - (i+1))+1 by omega] at hpre
          cases h4:bytesP bs q with
          | error er=>
           have hne:er≠0:=by rcases bytesP_err h4 with h | h <;> omega
           rw[blbsP_stop _ h4] at hpre
           refine ck<|cq<|cB<|sr<|wm<|wE rfl (run_call en99 rfl rfl) (readBytes_at h4 (.inr rfl) _ (rd hs) hqb) ?_
           rintro e w ⟨rfl,hq⟩
           refine⟨_,rfl,?_⟩
           replace hs:=Step.call (L1:=[_]) hs hq
           refine WL.alloc ty188 rfl hs (fun b12 w hs=>?_)
           refine WL.storeAll ty188 rfl rfl ((rfl)) (itemV_c1 rfl) hs (by rfl) (fun w hs=>?_)
           refine wZ<|cq<|sr<|wm<|wn rfl<|wF 2 u186 rfl ty3 rfl<|wl ty3 rfl (hs.c1 rfl)<|wV (run_bT (run_neq rfl rfl) (by exact hne))<|wZ<|CW.cond rfl (fun h=>?_) (fun h=>?_)
           ·refine cq<|CW.quiet mixedP (by kernel_rfl) hs ?_
            refine qm<|qn rfl<|qF 2 u186 rfl ty3 rfl<|qL ty3 rfl (fun w hs=>hs.c1 rfl)<|qA<|qA<|QL.nil (fun w hs=>?_)
            refine CW.ret ?_
            refine fin_ret2 rfl ?_
            exact .err (herr (hp.trans hpre.symm)) hne hs
           ·cases h
          | ok xq=>
           obtain⟨x,q2⟩:=xq
           have hb4:=bytesP_ok h4
           refine ck<|cq<|cB<|sr<|wm<|wE rfl (run_call en99 rfl rfl) (readBytes_at h4 (.inr rfl) _ (rd hs) hqb) ?_
           rintro e w ⟨v12,Lx,rfl,hvx,hq⟩
           refine⟨_,rfl,?_⟩
           replace hs:=Step.call (L1:=[_]) hs hq
           have ob:=hvx.form
           obtain⟨xa,xc,rfl⟩:=ob
           refine WL.alloc ty188 rfl hs (fun b12 w hs=>?_)
           refine WL.storeAll ty188 rfl rfl ((rfl)) (itemV_c1 rfl) hs (by rfl) (fun w hs=>?_)
           refine wZ ?_
           replace hs:=Step.u8 hs
           refine cq<|sr<|wm<|wn rfl<|wF 2 u186 rfl ty3 rfl<|wl ty3 rfl (hs.c1 rfl)<|nF<|wZ<|CW.cond rfl (fun h=>?_) (fun h=>?_)
           ·cases h
           by_cases hlong:1048576<x.length
           ·rw[blbsP_long _ h4 hlong] at hpre
            refine ck<|cq<|sr<|wF 2 u188 rfl ty76 rfl<|wl ty76 rfl (hs.c0 rfl)<|wL u76 rfl<|wV (run_bT (run_gtr rfl rfl) (by show((x.length:Int) > 1048576);omega))<|wZ<|CW.cond rfl (fun h=>?_) (fun h=>?_)
            ·refine sr<|wA<|wA<|wZ<|CW.ret ?_
             refine fin_ret2 rfl ?_
             exact .err (herr (hp.trans hpre.symm)) (by decide) hs
            ·cases h
           ·rw[blbsP_step _ h4 hlong] at hpre
            refine ck<|cq<|sr<|wF 2 u188 rfl ty76 rfl<|wl ty76 rfl (hs.c0 rfl)<|wL u76 rfl<|wV (run_bF (run_gtr rfl rfl) (by show ¬((x.length:Int) > 1048576);omega))<|wZ<|CW.cond rfl (fun h=>?_) (fun h=>?_)
            ·cases h
            refine ck<|cr<|wm<|wF 2 u188 rfl ty76 rfl<|wl ty76 rfl (hs.c0 rfl)<|WL.buildSlice (cs:=[.slice xa x.length xc]) u24 ty76 rfl (by decide) rfl (filled_s _ _ rfl) rfl hs (fun b91 w hs=>?_)
            have hsl91:Sl w 1 (.slice (some ⟨b91,0,none⟩) 1 1) 1 (cellsB [(.slice xa x.length xc,x)]):=.own1 hs rfl
            replace hs:=Step.u9 hs
            refine WL.append u24 u24 ty76 rfl (by decide) rfl rfl (hvB) (hs) (hsl91) (Cells1.of_all rfl) (by omega) rfl (fun v92 Lv92 w hv92 hs=>?_)
            refine wA<|wZ ?_
            replace hs:=Step.u10 hs
            have hv2:OwnSl 76 1 v92 (B++[(Value.slice xa x.length xc,x)]).length (cellsB (B++[(Value.slice xa x.length xc,x)])) Lv92:=by
             rw[length_append,cellsB_app]
             exact hv92
            refine cr<|wm<|wP ((i+1:Nat):Int)<|wA<|wZ<|(show _∧_ from⟨rfl,_,?_,i+1,q2,B++[(.slice xa x.length xc,x)],_,Lv92,G++Lx,hlt,rfl,hb4.1,?_,?_,?_,hv2,hs,rfl,rfl,rfl,rfl,trivial⟩)
            ·omega
            ·rw[length_append,hBi];rfl
            ·rw[map_append];exact hpre
            ·intro t ht
             rcases mem_append.1 ht with ht | ht
             ·exact(hBo.mono fun p hp=>mem_append_left _ hp) t ht
             ·rw[mem_singleton.1 ht]
              exact⟨⟨Lx,hvx,fun p hp=>mem_append_right _ hp⟩,by show x.length≤_;omega⟩
         ·cases h
        ·obtain rfl:i=n:=by omega
         rw[Nat.sub_self,blbsP] at hpre
         have hpk:pkP u bs=.ok (B.map (·.2),q):=by
          rw[hp,←hpre];simp[preB]
         refine cq<|sr<|wm<|wF 1 u188 rfl ty3 rfl<|wl ty3 rfl (hs.c1 rfl)<|lF<|wZ<|CW.cond rfl (fun h=>?_) (fun h=>?_)
         ·cases h
         by_cases hq0:q=bs.length
         ·have hup:upP u bs=(0,B.map (·.2)):=by
           unfold upP;rw[hpk];simp[hq0]
          refine CW.exit<|cq<|sr<|wm<|wE rfl (run_call en100 rfl rfl) (leftR_at _ (rd hs) hqb) ?_
          rintro e w ⟨rfl,hq⟩
          refine⟨_,rfl,?_⟩
          replace hs:=Step.call (L1:=[_]) hs hq
          refine xF<|wZ<|CW.cond rfl (fun h=>?_) (fun h=>?_)
          ·cases h
          refine ck<|sr<|wm<|wA<|wA<|wZ<|CW.ret ?_
          refine fin_ret2 rfl ?_
          have hue:upE u bs=0:=by rw[he,hup]
          exact RdRes.ok hue hvB hBo (by rw[hup]) hs.tail.tail
         ·have hup:upP u bs=(13,[]):=by
           unfold upP;rw[hpk];exact if_pos (by omega)
          refine CW.exit<|cq<|sr<|wm<|wE rfl (run_call en100 rfl rfl) (leftR_at _ (rd hs) hqb) ?_
          rintro e w ⟨rfl,hq⟩
          refine⟨_,rfl,?_⟩
          replace hs:=Step.call (L1:=[_]) hs hq
          refine xT<|wZ<|CW.cond rfl (fun h=>?_) (fun h=>?_)
          ·refine sr<|wA<|wA<|wZ<|CW.ret ?_
           refine fin_ret2 rfl ?_
           exact .err (by rw[he,hup]) (by decide) hs
          ·cases h
     ·refine cF rfl<|ck<|cq<|sr<|wF 1 u188 rfl ty3 rfl<|wl ty3 rfl (hs.c0 rfl)<|wm<|wV (run_bT (run_neq rfl rfl) (by exact fun h=>hu (Int.ofNat.inj h)))<|wZ<|cT rfl<|sr<|wA<|wA<|wZ ?_
      refine CW.ret ?_
      refine fin_ret2 rfl ?_
      exact .err (herr (by unfold pkP;rw[h1];simp[h2,hu])) (by decide) hs
   ·refine cF rfl<|ck<|cq<|sr<|wF 1 u188 rfl ty3 rfl<|wl ty3 rfl (hs.c0 rfl)<|wV (run_bT (run_neq rfl rfl) (by exact fun h=>ht (Int.ofNat.inj h)))<|wZ<|cT rfl<|sr<|wA<|wA<|wZ ?_
    refine CW.ret ?_
    refine fin_ret2 rfl ?_
    exact .err (herr (by unfold pkP;rw[h1];simp[ht])) (by decide) hs
section
variable{v:Value}{B:BL}{k kk:Nat}{gf of:List (List UInt8)}{D:OL}{w0:World}
set_option maxHeartbeats 8000000 in
theorem fitsR_spec (hk1:1≤k) (hk:k≤32) (hvB:∃Lv,OwnSl 76 1 v B.length (cellsB B) Lv∧∀p∈Lv,p∈D) (hB:BOk D B) (hne:0<B.length) (hn:B.length≤65536) (hsum:((B.map (·.2)).map List.length).sum≤4194304)
  (hG:(digsK k (B.map (·.2))).Nodup→(runs (fitS k (B.map (·.2))) rmG [rootS (lastK k (B.map (·.2)))] ws0).1=0→Goes (partsM (fitS k (B.map (·.2))) (runs (fitS k (B.map (·.2))) rmG [rootS (lastK k (B.map (·.2)))] ws0).2.m) [lastK k (B.map (·.2))] [] [] gf of kk) (hw:Lives D w0) :
  CP 98 #[.int .i64 (k:Nat),v] w0 (Ret0 (.bool (fitB k (B.map (·.2)) of)) w0):=by
 have ob:∃l,B.map (·.2)=l:=⟨_,rfl⟩
 obtain⟨l,hl⟩:=ob
 rw[hl] at hsum hG⊢
 have hll:l.length=B.length:=by rw[←hl,length_map]
 have hs:Step (List.map (·.1) D) D w0 w0:=hw
 obtain⟨Lb,hvb,hLb⟩:=hvB
 have hfin:∀{Y:OL}{w:World},Step (List.map (·.1) D) (Y++D) w0 w→Step [] [] w0 w:=fun h=>(Step.fin3 (A:=[]) (O:=[]) hw h).clear
 have hvs:∀{Y:OL}{w:World},Step (List.map (·.1) D) Y w0 w→(∀p∈D,p∈Y)→Sl w 1 v B.length (B.map fun t=>t.1):=fun h hm=>hvb.slW fun p hp=>h.has p (hm p (hLb p hp))
 have ob:∃tl,B[B.length - 1]?=some tl:=⟨_,getElem?_eq_getElem (by omega)⟩
 obtain⟨tl,htl⟩:=ob
 have ob:=sl_at1 (c:=fun t:Value×List UInt8=>t.1) (hvs hs fun p hp=>hp) htl
 obtain⟨bb,bo,bc,hbe,_⟩:=ob
 subst hbe
 refine calls (n:=81) Tryz.func98 rfl rfl rfl ?_
 refine sr<|wA<|wZ<|sr<|wm<|wE rfl (run_call en58 rfl rfl) (rnew_abs hk1 hk (c:=67108864) (by decide) _) ?_
 rintro e w ⟨br,R0,rfl,hP0,hq⟩
 refine⟨_,rfl,?_⟩
 replace hs:=Step.call0 hs hq
 refine wm<|wx rfl rfl<|wx rfl rfl<|wA<|wA<|wZ<|sr<|wA<|wZ<|CW.seqM (fun f w=>∃(vO:Value) (LO Lc Dc:OL),(digsK k l).Nodup∧PutOk k l (fitS k l)∧OwnSl 44 32 vO (digsK k l).length (digsL (digsK k l)) LO∧RRep br (fitS k l) (Dc++D) Lc∧Step (List.map (·.1) D) (LO++(Lc++(Dc++D))) w0 w∧Holds f [(0,.int .i64 (k:Nat)),(1,.slice (some ⟨bb,bo,none⟩) B.length bc),(5,pt br),(7,vO)]) ?_ ?_
 ·refine sr<|wA<|wZ<|cB<|CW.loop (fun z f w'=>∃(i:Nat) (vO:Value) (LO Lc Dc:OL),i≤B.length∧z=B.length - i∧(digsK k (l.take i)).Nodup∧PutOk k (l.take i) (fitS k (l.take i))∧OwnSl 44 32 vO (digsK k (l.take i)).length (digsL (digsK k (l.take i))) LO∧RRep br (fitS k (l.take i)) (Dc++D) Lc∧Step (List.map (·.1) D) (LO++(Lc++(Dc++D))) w0 w'∧Holds f [(0,.int .i64 (k:Nat)),(1,.slice (some ⟨bb,bo,none⟩) B.length bc),(5,pt br),(7,vO),(8,.int .i64 (i:Nat))]) (m:=B.length) ?_ ?_
  ·exact⟨0,_,[],R0,[],Nat.zero_le _,rfl,nodup_nil,PutOk.nil hk1 hk,OwnSl.nil _ _,hP0.mono (fun p hp=>by cases hp),hs,rfl,rfl,rfl,rfl,rfl,trivial⟩
  clear hs hP0
  rintro z f w ⟨i,vO,LO,Lc,Dc,hil,rfl,hnd,hPO,hvO,hP,hs,hf⟩
  have ob:=hf.chain
  obtain⟨g,rfl⟩:=ob
  by_cases hlt:i<B.length
  ·have ob:∃t,B[i]?=some t:=⟨_,getElem?_eq_getElem hlt⟩
   obtain⟨t,ht⟩:=ob
   have ob:=hB t (mem_of_getElem? ht)
   obtain⟨⟨LD,hvt,hLD⟩,htl1⟩:=ob
   have ob:∃x,t.2=x:=⟨_,rfl⟩
   obtain⟨x,hxe⟩:=ob
   rw[hxe] at hvt htl1
   have hx:l[i]?=some x:=by rw[←hl,getElem?_map,ht,←hxe];rfl
   have htk:l.take (i+1)=l.take i++[x]:=by rw[take_add_one,hx];rfl
   have ob:∃d,frontL x k=d:=⟨_,rfl⟩
   obtain⟨d,hd⟩:=ob
   have hd32:d.length=32:=by rw[←hd];exact frontL_len hk
   have hdl:(u8s d).length=32:=by rw[u8s,length_map,hd32]
   have ob:=hvt.form
   obtain⟨ta,tc,hte⟩:=ob
   have hcell:∀{Y:OL}{w:World},Step (List.map (·.1) D) Y w0 w→(∀p∈D,p∈Y)→w.cell? ⟨bb,bo+i*1,none⟩=some (.slice ta x.length tc):=fun h hm=>by
    have ob:=sl_at1 (c:=fun t:Value×List UInt8=>t.1) (hvs h hm) ht
    obtain⟨b2,o2,c2,he,hc⟩:=ob
    cases he
    rw[hc,hte]
   have hHt:Held (Dc++D) (.slice ta x.length tc) x:=⟨LD,hte▸hvt,fun p hp=>mem_append_right _ (hLD p hp)⟩
   have hdig:=fun{w1:World}{Y:OL} (h:Step (List.map (·.1) D) (Y++(Dc++D)) w0 w1)=>ofR_spec (k:=k) w1 (hHt.sl fun p hp=>h.has p (mem_append_right _ hp)) (by omega) hk1 hk
   have hdn:(digsK k (l.take i)).length=i:=by rw[digsK_len,length_take];omega
   have hhas:=fun{w1:World}{Y:OL} (h:Step (List.map (·.1) D) (LO++Y) w0 w1)=>hasR_spec (w0:=w1) (d:=d) (Dgs.own hvO (fun p hp=>h.has p (mem_append_left _ hp)) (digsK_32 hk) (by omega)) hd32
   rw[hd] at hdig
   refine cq<|sr<|wm<|wm<|wL u24 rfl<|lT<|wZ<|CW.cond rfl (fun h=>?_) (fun h=>?_)
   ·refine ck<|cq<|cB<|sr<|wm<|wm<|wm<|wI u24 ty76 rfl rfl<|wl ty76 rfl (hcell hs (fun p hp=>by simp[hp]))<|wE rfl (run_call en61 rfl rfl) (hdig (Y:=LO++Lc) (by rw[append_assoc];exact hs)) ?_
    rintro e w ⟨rfl,hq⟩
    refine⟨_,rfl,?_⟩
    replace hs:=hs.callE hq
    refine WL.alloc ty44 rfl hs (fun b9 w hs=>?_)
    refine WL.storeAll ty44 rfl rfl ((hdl)) ((Cells1.u8s _)) hs (by rfl) (fun w hs=>?_)
    refine wZ ?_
    by_cases hin:d∈digsK k (l.take i)
    ·rw[decide_eq_true hin] at hhas
     refine cq<|sr<|wm<|wR ty44 rfl hdl hs.a0<|wE rfl (run_call en66 rfl rfl) (hhas hs.tail) ?_
     rintro e w ⟨rfl,hq⟩
     refine⟨_,rfl,?_⟩
     replace hs:=hs.callE hq
     refine wZ<|CW.cond rfl (fun h=>?_) (fun h=>?_)
     ·refine sr<|wA<|wZ<|CW.ret ?_
      refine fin_ret1 rfl ?_
      rw[fitB_dup (dup_take hx (by rw[hd];exact hin))]
      exact⟨rfl,hfin (Y:=LO++(Lc++Dc)) (by rw[append_assoc,append_assoc];exact hs.tail)⟩
     ·cases h
    ·rw[decide_eq_false hin] at hhas
     have hnd2:(digsK k (l.take (i+1))).Nodup:=by
      rw[htk,digsK_app,hd,nodup_snoc]
      exact⟨hnd,hin⟩
     have hadd:=hPO.add (x:=x) (by rw[hd];exact hin) htl1 (by
      rw[←htk]
      have:=sum_take (l:=l) (i+1)
      omega)
     have hput:=fun{w1:World} (h:Lives (Lc++(Dc++D)) w1)=>rput_abs (w0:=w1) (y:=x) hP hPO.ok hPO.few (by rw[length_take];omega) h (hHt.sl fun p hp=>h.has p (mem_append_right _ hp)) (.inr (Own.outside (A:=[]) (L:=Lc) (D:=Dc++D) h hHt)) (by omega)
     obtain⟨a1,a2,hPO2⟩:=hadd
     rw[hd] at a1
     simp only[a1,a2] at hput
     have hfs:((fitS k (l.take i)).put x).2.2=fitS k (l.take (i+1)):=by rw[htk,fitS,fitS,putAll_app]
     rw[hfs,←htk] at hPO2
     rw[hfs] at hput
     refine cq<|sr<|wm<|wR ty44 rfl hdl hs.a0<|wE rfl (run_call en66 rfl rfl) (hhas hs.tail) ?_
     rintro e w ⟨rfl,hq⟩
     refine⟨_,rfl,?_⟩
     replace hs:=hs.callE hq
     refine wZ<|CW.cond rfl (fun h=>?_) (fun h=>?_)
     ·cases h
     refine ck<|sr<|wm<|wR ty44 rfl hdl hs.a0<|WL.buildSlice (cs:=u8s d) u35 ty44 rfl (by decide) rfl (filled1 hdl rfl) rfl hs (fun b36 w hs=>?_)
     have hsl36:Sl w 32 (.slice (some ⟨b36,0,none⟩) 1 1) 1 (u8s d):=.own1 hs (by rw[hdl])
     replace hs:=Step.in2 (Z:=LO) hs
     refine WL.append u35 u35 ty44 rfl (by decide) rfl rfl (hvO) (hs) (hsl36) (Cells1.u8s _) (by omega) rfl (fun v37 Lv37 w hv37 hs=>?_)
     replace hs:=(Step.out2b hs).tail
     refine wA<|wZ<|cr<|wm<|wm<|wm<|wI u24 ty76 rfl rfl<|wl ty76 rfl (hcell hs (fun p hp=>by simp[hp]))<|wE rfl (run_call en74 rfl rfl) (hput (Lives.mk (Step.dropL (L1:=Lv37) hs))) ?_
     rintro e w ⟨L2,D2,rfl,hP2,hq⟩
     refine⟨_,rfl,?_⟩
     replace hs:=Own.put (A:=Lv37) (L:=Lc) hs hq
     refine wZ<|cr<|wm<|wP ((i+1:Nat):Int)<|wA<|wZ<|(show _∧_ from⟨rfl,_,?_,i+1,v37,Lv37,L2,D2++Dc,hlt,rfl,hnd2,hPO2,?_,?_,?_,rfl,rfl,rfl,rfl,rfl,trivial⟩)
     ·omega
     ·rw[htk,digsK_app,hd,length_append,digsL_snoc]
      exact hv37
     ·rw[append_assoc];exact hP2
     ·rw[append_assoc];exact hs
   ·cases h
  ·obtain rfl:i=B.length:=by omega
   have htk:l.take B.length=l:=by rw[←hll,take_length]
   rw[htk] at hnd hPO hvO hP
   refine cq<|sr<|wm<|wm<|wL u24 rfl<|lF<|wZ<|CW.cond rfl (fun h=>?_) (fun h=>?_)
   ·cases h
   refine CW.exit ?_
   exact⟨rfl,vO,LO,Lc,Dc,hnd,hPO,hvO,hP,hs,rfl,rfl,rfl,rfl,trivial⟩
 clear hs hP0
 rintro f w ⟨vO,LO,Lc,Dc,hnd,hPO,hvO,hP,hs,hf⟩
 have ob:=hf.chain
 obtain⟨g,rfl⟩:=ob
 have hlg:=last_get (l:=l) (by omega)
 rw[hll] at hlg
 have ob:∃x,l.getLastD []=x:=⟨_,rfl⟩
 obtain⟨x,hxe⟩:=ob
 have ob:∃d,lastK k l=d:=⟨_,rfl⟩
 obtain⟨d,hd⟩:=ob
 have hdx:frontL x k=d:=by rw[←hd,←hxe];rfl
 rw[hxe] at hlg
 have hdg:=digsK_get (k:=k) hlg
 rw[hdx] at hdg
 have hd32:d.length=32:=by rw[←hdx];exact frontL_len hk
 have hdl:(u8s d).length=32:=by rw[u8s,length_map,hd32]
 have hdn:(digsK k l).length=B.length:=by rw[digsK_len,hll]
 have hvO0:=hvO
 rw[hdn] at hvO
 have ob:=hvO.some1 (by omega)
 obtain⟨bu,cu,more,hu1,hu2,hu3⟩:=ob
 subst hu1
 have hbad:=fun h=>fitB_bad (k:=k) (l:=l) (of:=of) h
 have hfok:=fun h=>fitB_ok (k:=k) (l:=l) (of:=of) hnd h
 have hG:=hG hnd
 rw[hd] at hG hbad hfok
 have hwk:=fun{w1:World} h=>walkR_spec (w0:=w1) (rn:=65536) (rd:=32) (rb:=67108864) hP hPO.ok hPO.few (by omega) hd32 rmG_ok h
 have hmet:=fun{t:WS} h=>runs_met (s:=fitS k l) (rm:=rmOf 65536 32 67108864) (t:=t) hd32 h
 have hgd:=standP_good (s:=fitS k l) (rm:=rmOf 65536 32 67108864) rmG_ok 34 (x:=rootS d) (t:=ws0) (ws0_good.mono (by omega))
 have hM32:=root_M32 (s:=fitS k l) (rm:=rmOf 65536 32 67108864) hd32
 rw[←runs_root] at hgd hM32
 rw[show rmG=rmOf 65536 32 67108864 from rfl] at hG hbad hfok
 have ob:∃r,runs (fitS k l) (rmOf 65536 32 67108864) [rootS d] ws0=r:=⟨_,rfl⟩
 obtain⟨r,hr⟩:=ob
 rw[hr] at hwk hG hgd hbad hfok hM32
 have hat:∀{Y:OL}{w:World},Step (List.map (·.1) D) Y w0 w→(∀p∈LO,p∈Y)→At w bu (0+(B.length - 1)*32) (u8s d):=fun h hm=>digsL_at (digsK_32 hk) (At.of_blk (h.has (bu,blk 44 (digsL (digsK k l)++more)) (hm _ (by rw[hu2];exact mem_singleton.2 rfl)))).left hdg
 by_cases he:r.1≠0
 ·rw[hbad he]
  rw[if_neg he] at hwk
  refine sr<|wm<|wm<|wm<|wL u35 rfl<|wS ((B.length - 1:Nat):Int)<|wI u35 ty44 rfl rfl<|wR ty44 rfl hdl (hat hs (fun p hp=>mem_append_left _ hp))<|wV (run_build rfl (bld_room _ _ _ _))<|wE rfl (run_call en65 rfl rfl) (hwk (Lives.mk (Step.dropL (L1:=LO) hs))) ?_
  rintro e w ⟨vm,Lm,R1,D1,rfl,hR1,hvm,hq⟩
  refine⟨_,rfl,?_⟩
  replace hs:=Own.put (A:=LO) (L:=Lc) hs hq
  refine wm<|wx rfl rfl<|wx rfl rfl<|wA<|wA<|wZ<|cq<|sr<|wm<|wV (run_bT (run_neq rfl rfl) (by exact he))<|wZ<|CW.cond rfl (fun h=>?_) (fun h=>?_)
  ·refine sr<|wA<|wZ<|CW.ret ?_
   refine fin_ret1 rfl ?_
   exact⟨rfl,hfin (Y:=LO++(R1++(Lm++(D1++Dc)))) (by simpa only[append_assoc] using hs)⟩
  ·cases h
 have he0:r.1=0:=by simpa using he
 have hmet:=hmet (t:=r.2) (by rw[hr,←he0])
 have hgd:=hgd he0
 have hM32:=hM32 he0
 have hml:r.2.m.length≤65536:=Nat.le_trans hgd.m hgd.n
 have ob:=hmet.of_le (hG he0)
 obtain⟨hol,hofU⟩:=ob
 have hof32:∀y∈of,y.length=32:=fun y hy=>hmet.len y (hofU y hy)
 rw[if_pos he0] at hwk
 rw[hfok he0]
 refine sr<|wm<|wm<|wm<|wL u35 rfl<|wS ((B.length - 1:Nat):Int)<|wI u35 ty44 rfl rfl<|wR ty44 rfl hdl (hat hs (fun p hp=>mem_append_left _ hp))<|wV (run_build rfl (bld_room _ _ _ _))<|wE rfl (run_call en65 rfl rfl) (hwk (Lives.mk (Step.dropL (L1:=LO) hs))) ?_
 rintro e w ⟨vm,Lm,R1,D1,rfl,hR1,hvm,hq⟩
 refine⟨_,rfl,?_⟩
 replace hs:=Own.put (A:=LO) (L:=Lc) hs hq
 refine wm<|wx rfl rfl<|wx rfl rfl<|wA<|wA<|wZ<|cq<|sr<|wm<|wV (run_bF (run_neq rfl rfl) (by exact he))<|wZ<|CW.cond rfl (fun h=>?_) (fun h=>?_)
 ·cases h
 replace hs:Step (List.map (·.1) D) (LO++(R1++(Lm++(D1++(Dc++D))))) w0 w:=by simpa only[append_assoc] using hs
 have hR2:RRep br ((fitS k l).gotN r.2.g) (Lm++(D1++(Dc++D))) R1:=hR1.mono mem_right
 refine ck<|sr<|wm<|wm<|wE rfl (run_call en71 rfl rfl) (behindR_spec hR2 (hPO.ok.gotN _) (⟨hmet.head,hmet.got,hmet.len,hmet.sub⟩:Met ((fitS k l).gotN r.2.g) d r.2.m) hvm (fun p hp=>mem_append_left _ hp) hml hM32 (partsM_len _ _) (hG he0) (Lives.mk (Step.dropL (L1:=LO) hs))) ?_
 rintro e w ⟨vo,Lo,rfl,hvo,hq⟩
 refine⟨_,rfl,?_⟩
 replace hs:=Step.call0 hs hq
 refine wA<|wZ ?_
 have hu:Dgs w vo of:=Dgs.own hvo (fun p hp=>hs.has p (mem_append_left _ hp)) hof32 (by omega)
 have hv:Dgs w (.slice (some ⟨bu,0,none⟩) B.length cu) (digsK k l):=Dgs.own hvO0 (fun p hp=>hs.has p (by simp[hp])) (digsK_32 hk) (by omega)
 have ob:=hvo.form
 obtain⟨oa,oc,rfl⟩:=ob
 have hfin2:∀{w:World},Step (List.map (·.1) D) (Lo++(LO++(R1++(Lm++(D1++(Dc++D)))))) w0 w→Step [] [] w0 w:=fun h=>hfin (Y:=Lo++(LO++(R1++(Lm++(D1++Dc))))) (by simpa only[append_assoc] using h)
 have hs1:=hfin2 hs
 clear hs
 have hs:=Step.refl w
 have ob:∃res,decide (of=digsK k l)=res:=⟨_,rfl⟩
 obtain⟨res,hres⟩:=ob
 rw[hres]
 by_cases hlen:of.length=B.length
 ·refine cq<|sr<|wm<|wL u35 rfl<|wm<|wL u35 rfl<|nF<|wZ<|CW.cond rfl (fun h=>?_) (fun h=>?_)
  ·cases h
  refine ck<|cq<|sr<|wA<|wZ<|cB<|CW.loop (fun z f w'=>∃i,i≤of.length∧z=of.length - i∧of.take i=(digsK k l).take i∧Step [] [] w w'∧Holds f [(7,.slice (some ⟨bu,0,none⟩) B.length cu),(12,.slice oa of.length oc),(13,.int .i64 (i:Nat))]) (m:=of.length) ?_ ?_
  ·exact⟨0,Nat.zero_le _,rfl,by simp,hs,rfl,rfl,rfl,trivial⟩
  ·clear hs
   rintro z f w2 ⟨i,hi,rfl,heq,hs,hf⟩
   have ob:=hf.chain
   obtain⟨g,rfl⟩:=ob
   by_cases hlt:i<of.length
   ·have ob:∃e,of[i]?=some e:=⟨_,getElem?_eq_getElem hlt⟩
    obtain⟨e,he⟩:=ob
    have ob:∃e,(digsK k l)[i]?=some e:=⟨_,getElem?_eq_getElem (by omega)⟩
    obtain⟨e2,he2⟩:=ob
    have ob:=hu.at he
    obtain⟨b,off,c',hb,hat⟩:=ob
    cases hb
    have ob:=hv.at he2
    obtain⟨b2,off2,c2',hb2,hat2⟩:=ob
    rw[hdn] at hb2
    cases hb2
    have hel:=hu.len e (mem_of_getElem? he)
    have hel2:(u8s e).length=32:=by rw[u8s,length_map,hel]
    have hem:=hv.len e2 (mem_of_getElem? he2)
    have hem2:(u8s e2).length=32:=by rw[u8s,length_map,hem]
    refine cq<|sr<|wm<|wm<|wL u35 rfl<|lT<|wZ<|CW.cond rfl (fun h=>?_) (fun h=>?_)
    ·by_cases hed:e=e2
     ·refine ck<|cq<|cB<|cq<|CW.quiet mixedP (by kernel_rfl) hs ?_
      refine qm<|qm<|qI u35 ty44 rfl rfl<|qV (fun w hs=>run_loadN ty44 rfl hel2 (hat.step hs.clear (by simp)))<|qm<|qm<|qI u35 ty44 rfl rfl<|qV (fun w hs=>run_loadN ty44 rfl hem2 (hat2.step hs.clear (by simp)))<|qV (fun w hs=>run_bF (run_neDig hel hem rfl rfl) (fun h=>h hed))<|QL.nil (fun w hs=>?_)
      refine CW.cond rfl (fun h=>?_) (fun h=>?_)
      ·cases h
      refine ck<|cr<|wm<|wP ((i+1:Nat):Int)<|wA<|wZ<|(show _∧_ from⟨rfl,_,?_,i+1,hlt,rfl,?_,hs,rfl,rfl,rfl,trivial⟩)
      ·omega
      ·rw[take_add_one,take_add_one,he,he2,heq,hed]
     ·refine ck<|cq<|cB<|cq<|CW.quiet mixedP (by kernel_rfl) hs ?_
      refine qm<|qm<|qI u35 ty44 rfl rfl<|qV (fun w hs=>run_loadN ty44 rfl hel2 (hat.step hs.clear (by simp)))<|qm<|qm<|qI u35 ty44 rfl rfl<|qV (fun w hs=>run_loadN ty44 rfl hem2 (hat2.step hs.clear (by simp)))<|qV (fun w hs=>run_bT (run_neDig hel hem rfl rfl) hed)<|QL.nil (fun w hs=>?_)
      refine CW.cond rfl (fun h=>?_) (fun h=>?_)
      ·refine sr<|wA<|wZ<|CW.ret ?_
       refine fin_ret1 rfl ?_
       exact⟨congrArg (fun b=>Ending.returned (.bool b)) (by rw[←hres];symm;rw[decide_eq_false_iff_not];intro h;rw[h,he2] at he;exact hed (Option.some.inj he).symm),(Step.call0 hs1 hs).clear⟩
      ·cases h
    ·cases h
   ·obtain rfl:i=of.length:=by omega
    have hlm:of=digsK k l:=by
     rw[take_length,hlen,←hdn,take_length] at heq;exact heq
    refine cq<|sr<|wm<|wm<|wL u35 rfl<|lF<|wZ<|CW.cond rfl (fun h=>?_) (fun h=>?_)
    ·cases h
    refine CW.exit<|sr<|wA<|wZ<|CW.ret ?_
    refine fin_ret1 rfl ?_
    exact⟨congrArg (fun b=>Ending.returned (.bool b)) (by rw[←hres];simp[hlm]),(Step.call0 hs1 hs).clear⟩
 ·refine cq<|sr<|wm<|wL u35 rfl<|wm<|wL u35 rfl<|nT<|wZ<|CW.cond rfl (fun h=>?_) (fun h=>?_)
  ·refine sr<|wA<|wZ<|CW.ret ?_
   refine fin_ret1 rfl ?_
   exact⟨congrArg (fun b=>Ending.returned (.bool b)) (by rw[←hres];symm;rw[decide_eq_false_iff_not];intro h;exact hlen (by rw[h,hdn])),(Step.call0 hs1 hs).clear⟩
  ·cases h
end
theorem put_d{t:AS}{y:U8} (h:(t.put y).2.1=0):(t.put y).1=frontL y t.k:=by
 unfold AS.put at h⊢
 simp only at h⊢
 split at h
 ·cases h
 ·rename_i h1
  rw[if_neg h1]
  have hgo:∀{r:List UInt8×Nat×AS},r=(match ({ t with puts:=t.puts+1 }:AS).lay (frontL y t.k) y with | some s2=>(frontL y t.k,0,s2) | none=>(zD,43,{ t with puts:=t.puts+1 }))→r.2.1=0→r.1=frontL y t.k:=fun {r} hr h0=>by
   cases hl:({ t with puts:=t.puts+1 }:AS).lay (frontL y t.k) y with
   | none=>rw[hl] at hr;rw[hr] at h0;cases h0
   | some s2=>rw[hl] at hr;rw[hr]
  cases hf:findX (frontL y t.k) t.X with
  | none=>rw[hf] at h;exact hgo rfl h
  | some b=>
   rw[hf] at h
   simp only at h⊢
   split at h
   ·rename_i h2;rw[if_pos h2]
   ·rename_i h2
    rw[if_neg h2]
    split at h
    ·cases h
    ·rename_i h3;rw[if_neg h3];exact hgo rfl h
theorem upE_ok{k:Nat}{bs:U8} (h:upE k bs=0):¬4194304<bs.length∧(upP k bs).1=0:=by
 unfold upE at h
 split at h
 ·cases h
 ·exact⟨by assumption,h⟩
theorem unpR_bad2{s:AS}{bs:U8}{of:List (List UInt8)} (h:upE s.k bs≠0):unpR s bs of=(zD,upE s.k bs,s):=by
 by_cases hl:4194304<bs.length
 ·rw[unpR_long hl,upE,if_pos hl]
 ·have he:upE s.k bs=(upP s.k bs).1:=if_neg hl
  rw[he] at h⊢
  exact unpR_bad hl h
theorem unpR_not2{s:AS}{bs:U8}{of:List (List UInt8)} (h:upE s.k bs=0) (h3:fitB s.k (upP s.k bs).2 of=false):unpR s bs of=(zD,81,s):=unpR_not (upE_ok h).1 (upE_ok h).2 h3
theorem unpR_go2{s:AS}{bs:U8}{of:List (List UInt8)} (h:upE s.k bs=0) (h3:fitB s.k (upP s.k bs).2 of=true):unpR s bs of=(if (putRun s (upP s.k bs).2).1=0 then lastK s.k (upP s.k bs).2 else zD,putRun s (upP s.k bs).2):=unpR_go (upE_ok h).1 (upE_ok h).2 h3
section
variable{br N kk:Nat}{s:AS}{D R:OL}{v:Value}{bs:U8}{w0:World}{gf of:List (List UInt8)}
set_option maxHeartbeats 8000000 in
theorem unpackR_spec (hR:RRep br s D R) (ok:s.Ok) (hfew:s.Few N) (hN:N<1000000000) (hv:∀{w:World}{Y:OL},Step (List.map (·.1) (R++D)) Y w0 w→Sl w 1 v bs.length (u8s bs)) (hroom:Room v) (hlen:bs.length≤9223372036854775807) (hG:GoF s.k (upP s.k bs).2 gf of kk) (hw:Lives (R++D) w0) :
  CP 43 #[pt br,v] w0 fun e w'=>∃R' D',e=.returned (.tuple #[.agg (u8s (unpR s bs of).1).toArray,.int .i64 (unpR s bs of).2.1])∧RRep br (unpR s bs of).2.2 (D'++D) R'∧Step (R.map (·.1)) (R'++D') w0 w':=by
 have hk1:=ok.k1
 have hk2:=ok.k2
 have hs:Step (List.map (·.1) (R++D)) (R++D) w0 w0:=hw
 have hzl:(u8s zD).length=32:=rfl
 have ob:=hR.look ok.len
 obtain⟨ra,rc,_,hlk⟩:=ob
 have hbl:=fun{w1:World}{Y:OL} (h:Step (List.map (·.1) (R++D)) Y w0 w1)=>readBR_spec w1 hk2 (hv h) hroom hlen
 have hbad:=fun h=>unpR_bad2 (s:=s) (bs:=bs) (of:=of) h
 have hnot:=fun h=>unpR_not2 (s:=s) (bs:=bs) (of:=of) h
 have hgo:=fun h=>unpR_go2 (s:=s) (bs:=bs) (of:=of) h
 have hupo:=fun h=>upP_ok (k:=s.k) (bs:=bs) (upE_ok h).2
 unfold RdRes at hbl
 have ob:∃ue,upE s.k bs=ue:=⟨_,rfl⟩
 obtain⟨ue,hue⟩:=ob
 have ob:∃l,(upP s.k bs).2=l:=⟨_,rfl⟩
 obtain⟨l,hl⟩:=ob
 simp only[hue,hl] at hbl hbad hnot hgo hupo hG
 refine calls (n:=55) Tryz.func43 rfl rfl rfl ?_
 refine sr<|WL.alloc ty44 rfl hs (fun b4 w hs=>?_)
 refine wA<|wZ ?_
 replace hs:Step (List.map (·.1) (R++D)) ((b4,blk 44 (u8s zD))::(R++D)) w0 w:=hs
 refine sr<|wm<|wn rfl<|wF 0 u54 rfl ty3 rfl<|wl ty3 rfl ((hlk (fun p hp=>hs.has p (by simp[hp]))).1.cell (j:=0) rfl)<|wm<|wE rfl (run_call en45 rfl rfl) (hbl hs) ?_
 rintro e w ⟨u,B,Lv,G,rfl,hB,hq⟩
 refine⟨_,rfl,?_⟩
 replace hs:=Step.call0 hs hq
 refine wm<|wx rfl rfl<|wx rfl rfl<|wA<|wA<|wZ ?_
 have ob:∃Z,(Lv++G)++D=Z:=⟨_,rfl⟩
 obtain⟨Z,hZ⟩:=ob
 have hDZ:∀p∈D,p∈Z:=fun p hp=>hZ▸mem_append_right _ hp
 replace hs:Step (List.map (·.1) (R++D)) ((b4,blk 44 (u8s zD))::(R++Z)) w0 w:=by
  rw[←hZ]
  exact hs.perm (by classical exact perm_iff_count.2 fun x=>by simp only[count_append,count_cons];omega)
 have hend:∀{t:AS}{Lc Dc:OL}{w:World},RRep br t (Dc++Z) Lc→Step (List.map (·.1) (R++D)) (Lc++(Dc++Z)) w0 w→∃L' D',RRep br t (D'++D) L'∧Step (R.map (·.1)) (L'++D') w0 w:=fun {t Lc Dc w} hP h=>⟨Lc,Dc++(Lv++G),by rw[append_assoc,hZ];exact hP,Step.fin (M:=[]) hw (by show Step (List.map (·.1) (R++D)) (Lc++((Dc++(Lv++G))++D)) w0 w;rw[append_assoc Dc,hZ];exact h)⟩
 by_cases he:ue≠0
 ·rw[hbad he]
  refine cq<|sr<|wm<|wV (run_bT (run_neq rfl rfl) (by exact he))<|wZ<|CW.cond rfl (fun h=>?_) (fun h=>?_)
  ·refine sr<|wV (run_build rfl (bld_dig _))<|wm<|WL.storeAll ty44 rfl rfl ((hzl)) ((Cells1.u8s _)) hs (by rfl) (fun w hs=>?_)
   refine wA<|wZ<|CW.ret ?_
   refine fin_cellTmp rfl rfl (run_loadVarN ty44 hzl hs.a0) ?_
   have ob:=hend (Dc:=[]) (hR.mono hDZ) hs.tail
   obtain⟨L',D',h1,h2⟩:=ob
   exact⟨L',D',rfl,h1,h2⟩
  ·cases h
 have he0:ue=0:=by simpa using he
 have ob:=hB he0
 obtain⟨hvB,hBo,hBl⟩:=ob
 have ob:=hupo he0
 obtain⟨hne,hl6,hsum,hl1⟩:=ob
 have hlong:=(upE_ok (hue.trans he0)).1
 have hll:l.length=B.length:=by rw[←hBl,length_map]
 have hB0:0<B.length:=by rw[←hll];exact length_pos_iff.2 hne
 have hft:=fun{w1:World} (h:Lives (Lv++G) w1)=>fitsR_spec (v:=u) (B:=B) (k:=s.k) (kk:=kk) (gf:=gf) (of:=of) hk1 hk2 ⟨Lv,hvB,fun p hp=>mem_append_left _ hp⟩ (hBo.mono fun p hp=>mem_append_right _ hp) hB0 (by omega) (by rw[hBl];omega) (by rw[hBl];exact hG) h
 rw[hBl] at hft
 have hLG:∀{A:OL}{w:World},Step (List.map (·.1) (R++D)) (A++Z) w0 w→Lives (Lv++G) w:=fun h=>Lives.mk (Step.dropR (L2:=D) (Step.dropL (by rw[hZ];exact h)))
 have hvz:∀{A:OL}{w:World},Step (List.map (·.1) (R++D)) (A++Z) w0 w→Sl w 1 u B.length (B.map fun t=>t.1):=fun h=>hvB.slW fun p hp=>(hLG h).has p (mem_append_left _ hp)
 have ob:∃tl,B[B.length - 1]?=some tl:=⟨_,getElem?_eq_getElem (by omega)⟩
 obtain⟨tl,htl⟩:=ob
 have ob:=sl_at1 (c:=fun t:Value×List UInt8=>t.1) (hvz (A:=(b4,blk 44 (u8s zD))::R) hs) htl
 obtain⟨bb,bo,bc,hbe,_⟩:=ob
 subst hbe
 by_cases hfit:fitB s.k l of=false
 ·rw[hnot he0 hfit]
  rw[hfit] at hft
  refine cq<|sr<|wm<|wV (run_bF (run_neq rfl rfl) (by exact he))<|wZ<|CW.cond rfl (fun h=>?_) (fun h=>?_)
  ·cases h
  refine ck<|cq<|sr<|wm<|wn rfl<|wF 0 u54 rfl ty3 rfl<|wl ty3 rfl ((hlk (fun p hp=>hs.has p (by simp[hp]))).1.cell (j:=0) rfl)<|wm<|wE rfl (run_call en98 rfl rfl) (hft (hLG (A:=_::R) hs)) ?_
  rintro e w ⟨rfl,hq⟩
  refine⟨_,rfl,?_⟩
  replace hs:=hs.callE hq
  refine wN rfl<|wZ<|CW.cond rfl (fun h=>?_) (fun h=>?_)
  ·refine sr<|wV (run_build rfl (bld_dig _))<|WL.storeAll ty44 rfl rfl ((hzl)) ((Cells1.u8s _)) hs (by rfl) (fun w hs=>?_)
   refine wA<|wZ<|CW.ret ?_
   refine fin_cellTmp rfl rfl (run_loadVarN ty44 hzl hs.a0) ?_
   have ob:=hend (Dc:=[]) (hR.mono hDZ) hs.tail
   obtain⟨L',D',h1,h2⟩:=ob
   exact⟨L',D',rfl,h1,h2⟩
  ·cases h
 have hfit:fitB s.k l of=true:=by simpa using hfit
 rw[hgo he0 hfit]
 rw[hfit] at hft
 have ob:∃GR,putRun s l=GR:=⟨_,rfl⟩
 obtain⟨GR,hGR⟩:=ob
 rw[hGR]
 refine cq<|sr<|wm<|wV (run_bF (run_neq rfl rfl) (by exact he))<|wZ<|CW.cond rfl (fun h=>?_) (fun h=>?_)
 ·cases h
 refine ck<|cq<|sr<|wm<|wn rfl<|wF 0 u54 rfl ty3 rfl<|wl ty3 rfl ((hlk (fun p hp=>hs.has p (by simp[hp]))).1.cell (j:=0) rfl)<|wm<|wE rfl (run_call en98 rfl rfl) (hft (hLG (A:=_::R) hs)) ?_
 rintro e w ⟨rfl,hq⟩
 refine⟨_,rfl,?_⟩
 replace hs:=hs.callE hq
 refine wN rfl<|wZ<|CW.cond rfl (fun h=>?_) (fun h=>?_)
 ·cases h
 refine ck<|sr<|wV (run_build rfl (bld_dig _))<|WL.alloc ty44 rfl hs (fun b8 w hs=>?_)
 refine WL.storeAll ty44 rfl rfl ((hzl)) ((Cells1.u8s _)) hs (by rfl) (fun w hs=>?_)
 refine wZ<|cq<|sr<|wA<|wZ<|cB<|CW.loop (fun z f w'=>∃(i:Nat) (t:AS) (d:U8) (Lc Dc:OL),i≤B.length∧z=B.length - i∧t.Ok∧t.k=s.k∧t.Few (N+i)∧d.length=32∧(∀x,0<i→l[i - 1]?=some x→d=frontL x s.k)∧putRun t (l.drop i)=GR∧RRep br t (Dc++Z) Lc∧Step (List.map (·.1) (R++D)) ((b8,blk 44 (u8s d))::(b4,blk 44 (u8s zD))::(Lc++(Dc++Z))) w0 w'∧Holds f [(0,pt br),(4,pt b4),(6,.slice (some ⟨bb,bo,none⟩) B.length bc),(8,pt b8),(9,.int .i64 (i:Nat))]) (m:=B.length) ?_ ?_
 ·exact⟨0,s,zD,R,[],Nat.zero_le _,rfl,ok,rfl,hfew,rfl,(fun x h=>absurd h (Nat.lt_irrefl 0)),hGR,hR.mono hDZ,hs,rfl,rfl,rfl,rfl,rfl,trivial⟩
 clear hs
 rintro z f w ⟨i,t,d,Lc,Dc,hil,rfl,oki,hki,fewi,hd32,hdi,hGi,hP,hs,hf⟩
 have ob:=hf.chain
 obtain⟨g,rfl⟩:=ob
 have hdl:(u8s d).length=32:=by rw[u8s,length_map,hd32]
 by_cases hlt:i<B.length
 ·have ob:∃y,B[i]?=some y:=⟨_,getElem?_eq_getElem hlt⟩
  obtain⟨y,hy⟩:=ob
  have ob:=hBo y (mem_of_getElem? hy)
  obtain⟨⟨LD,hvt,hLD⟩,htl1⟩:=ob
  have ob:∃x,y.2=x:=⟨_,rfl⟩
  obtain⟨x,hxe⟩:=ob
  rw[hxe] at hvt htl1
  have hx:l[i]?=some x:=by rw[←hBl,getElem?_map,hy,←hxe];rfl
  have hdrop:l.drop i=x::l.drop (i+1):=by
   have ob:=List.getElem?_eq_some_iff.1 hx
   obtain⟨hlt,rfl⟩:=ob
   exact drop_eq_getElem_cons hlt
  rw[hdrop] at hGi
  have ob:=hvt.form
  obtain⟨ta,tc,hte⟩:=ob
  have hcell:∀{A:OL}{w:World},Step (List.map (·.1) (R++D)) (A++Z) w0 w→w.cell? ⟨bb,bo+i*1,none⟩=some (.slice ta x.length tc):=fun h=>by
   have ob:=sl_at1 (c:=fun t:Value×List UInt8=>t.1) (hvz h) hy
   obtain⟨b2,o2,c2,he,hc⟩:=ob
   cases he
   rw[hc,hte]
  have hHt:Held (Dc++Z) (.slice ta x.length tc) x:=⟨LD,hte▸hvt,fun p hp=>mem_append_right _ (by rw[←hZ];exact mem_append_left _ (mem_append_right _ (hLD p hp)))⟩
  have hput:=fun{w1:World} (h:Lives (Lc++(Dc++Z)) w1)=>rput_abs (w0:=w1) (y:=x) hP oki fewi (by omega) h (hHt.sl fun p hp=>h.has p (mem_append_right _ hp)) (.inr (Own.outside (A:=[]) (L:=Lc) (D:=Dc++Z) h hHt)) (by omega)
  have hp32:=put_32 oki x
  have ok2:=oki.put x
  have few2:=fewi.put x
  have hk3:=put_k t x
  have hpd:=put_d (t:=t) (y:=x)
  have hbad:=putRun_bad (t:=t) (x:=x) (l:=l.drop (i+1))
  have hgo:=putRun_ok (t:=t) (x:=x) (l:=l.drop (i+1))
  have ob:∃pr,t.put x=pr:=⟨_,rfl⟩
  obtain⟨pr,hpr⟩:=ob
  rw[hpr] at hp32 ok2 few2 hbad hgo hk3 hpd
  simp only[hpr] at hput
  have hpl:(u8s pr.1).length=32:=by rw[u8s,length_map,hp32]
  refine cq<|sr<|wm<|wm<|wL u24 rfl<|lT<|wZ<|CW.cond rfl (fun h=>?_) (fun h=>?_)
  ·refine ck<|cq<|cB<|sr<|wm<|wm<|wm<|wI u24 ty76 rfl rfl<|wl ty76 rfl (hcell (A:=_::_::(Lc++Dc)) (show Step _ (_::_::((Lc++Dc)++Z)) w0 w from by rw[append_assoc];exact hs))<|wE rfl (run_call en74 rfl rfl) (hput (Lives.mk hs.tail.tail)) ?_
   rintro e w ⟨L2,D2,rfl,hP2,hq⟩
   refine⟨_,rfl,?_⟩
   replace hs:=Own.put (A:=[(b8,blk 44 (u8s d)),(b4,blk 44 (u8s zD))]) (L:=Lc) hs hq
   refine wm<|wx rfl rfl<|wx rfl rfl<|WL.alloc ty44 rfl hs (fun b10 w hs=>?_)
   refine WL.storeAll ty44 rfl rfl ((hpl)) ((Cells1.u8s _)) hs (by rfl) (fun w hs=>?_)
   refine wA<|wZ ?_
   by_cases hpe:pr.2.1≠0
   ·rw[hbad hpe] at hGi
    refine cq<|sr<|wm<|wV (run_bT (run_neq rfl rfl) (by exact fun h=>hpe (Int.ofNat.inj h)))<|wZ<|CW.cond rfl (fun h=>?_) (fun h=>?_)
    ·replace hs:=hs.tail.tail
     refine sr<|wV (run_build rfl (bld_dig _))<|wm<|WL.storeAll ty44 rfl rfl ((hzl)) ((Cells1.u8s _)) hs (by rfl) (fun w hs=>?_)
     refine wA<|wZ<|CW.ret ?_
     refine fin_cellTmp rfl rfl (run_loadVarN ty44 hzl hs.a0) ?_
     have ob:=hend (Dc:=D2++Dc) (by rw[append_assoc];exact hP2) (by rw[append_assoc];exact hs.tail)
     obtain⟨L',D',h1,h2⟩:=ob
     rw[←hGi,if_neg (show ¬(((pr.2.1:Nat):Int)=0) from fun h=>hpe (Int.ofNat.inj h))]
     exact⟨L',D',rfl,h1,h2⟩
    ·cases h
   have hp0:pr.2.1=0:=by simpa using hpe
   rw[hgo hp0] at hGi
   refine cq<|sr<|wm<|wV (run_bF (run_neq rfl rfl) (by exact fun h=>h (congrArg Int.ofNat hp0)))<|wZ<|CW.cond rfl (fun h=>?_) (fun h=>?_)
   ·cases h
   refine ck<|cr<|wR ty44 rfl hpl hs.a0<|WL.storeAll_1 ty44 rfl rfl ((hpl)) ((Cells1.u8s _)) hs (by assumption) (fun w hs=>?_)
   refine wZ ?_
   replace hs:=hs.tail
   refine cr<|wm<|wP ((i+1:Nat):Int)<|wA<|wZ<|(show _∧_ from⟨rfl,_,?_,i+1,pr.2.2,pr.1,L2,D2++Dc,hlt,rfl,ok2,hk3.trans hki,few2,hp32,?_,hGi,?_,?_,rfl,rfl,rfl,rfl,rfl,trivial⟩)
   ·omega
   ·intro z _ hz
    rw[Nat.add_sub_cancel,hx] at hz
    rw[hpd hp0,hki,Option.some.inj hz]
   ·rw[append_assoc];exact hP2
   ·rw[append_assoc];exact hs
  ·cases h
 ·obtain rfl:i=B.length:=by omega
  rw[←hll,drop_length] at hGi
  obtain rfl:(0,t)=GR:=hGi
  have hlx:lastK s.k l=d:=by
   have h1:=last_get (l:=l) (by omega)
   rw[hll] at h1
   exact(hdi _ hB0 h1).symm
  refine cq<|sr<|wm<|wm<|wL u24 rfl<|lF<|wZ<|CW.cond rfl (fun h=>?_) (fun h=>?_)
  ·cases h
  refine CW.exit<|sr<|wR ty44 rfl hdl hs.a0<|WL.storeAll_1 ty44 rfl rfl ((hdl)) ((Cells1.u8s _)) hs (by rfl) (fun w hs=>?_)
  refine wA<|wZ<|CW.ret ?_
  refine fin_cellTmp rfl rfl (run_loadVarN ty44 hdl hs.a1) ?_
  have ob:=hend hP hs.tail.tail
  obtain⟨L',D',h1,h2⟩:=ob
  rw[if_pos rfl,hlx]
  exact⟨L',D',rfl,h1,h2⟩
end
end Go.Gx
namespace Go.Gx
open Go.Proofs Go.RowKit List
attribute [local irreducible] shaL cutD frontL
def pads (n:Nat):List Value:=List.replicate n (.int .u8 169)
theorem pads_get{n i:Nat} (h:i<n):(pads n)[i]?=some (.int .u8 169):=by simp[pads,h]
def LendS (s:(List UInt8)):Obj:=blk 5 (u8s s++pads 67)
theorem lend2_spec{v:Value}{s:U8} (w0:World) (hl:Sl w0 1 v s.length (u8s s)) (hb:s.length≤4398046511104):CP 41 #[v] w0 fun e w'=>∃b,e=.returned (.slice (some ⟨b,0,none⟩) s.length (s.length+67))∧Step [] [(b,LendS s)] w0 w':=by
 have hs:Step [] [] w0 w0:=Step.refl w0
 have ob:=hl.form
 obtain⟨a,c,rfl⟩:=ob
 refine calls (n:=27) Tryz.func41 rfl rfl rfl ?_
 refine sr<|wA<|wZ<|sr<|wm<|wL u76 rfl<|wP ((s.length+67:Nat):Int)<|WL.makeSlice (k:=s.length+67) u76 ty5 rfl (by omega) (by omega) rfl rfl rfl hs (fun b8 w hs=>?_)
 refine wA<|wZ ?_
 have hz:((List.replicate (s.length+67) [Value.int .u8 0]).flatten).length=s.length+67:=by simp
 generalize (List.replicate (s.length+67) [Value.int .u8 0]).flatten=zs at hs hz
 refine sr<|wm<|wm<|WL.copy u76 ty5 rfl rfl (hs) (hl.step0 hs) (Cells1.u8s s) (by omega) (fun k hk=>by cases hk;rfl) (fun w hs=>⟨fun k hk=>?_,fun h=>by cases h⟩)
 cases hk
 refine wZ ?_
 rw[Nat.min_eq_left (by omega),Nat.mul_one,←u8s_len s,take_length] at hs
 have hs0:Step [] [(b8,blk 5 (u8s s++pads 0++zs.drop s.length))] w0 w:=by
  have:splice zs 0 (u8s s)=u8s s++pads 0++zs.drop s.length:=by simp[splice,pads,u8s]
  rw[←this];exact hs
 refine cq<|sr<|wm<|wL u76 rfl<|wA<|wZ<|cB<|CW.loop (fun m f w'=>∃j more,j≤67∧m=67 - j∧Step [] [(b8,blk 5 (u8s s++pads j++more))] w0 w'∧more.length=67 - j∧Holds f [(0,.slice a s.length c),(3,.slice (some ⟨b8,0,none⟩) (s.length+67) (s.length+67)),(4,.int .i64 (s.length+j:Nat))]) (m:=67) ?_ ?_
 ·exact⟨0,_,by omega,rfl,hs0,by simp[hz],rfl,rfl,rfl,trivial⟩
 ·rintro m f w ⟨j,more,hj,rfl,hs,hm,hf⟩
  have ob:=hf.chain
  obtain⟨g,rfl⟩:=ob
  refine cq<|sr<|wm<|wm<|wL u76 rfl<|wV (run_lss rfl rfl)<|wZ<|CW.condP rfl (fun h=>?_) (fun h=>?_)
  ·have hlt:j<67:=by omega
   have hlen:(u8s s++pads j).length=s.length+j:=by simp[u8s,pads]
   have hlen2:(u8s s++pads j++more).length=s.length+67:=by rw[length_append,hlen,hm];omega
   refine ck<|cq<|cB<|cr<|wm<|wm<|wI u76 ty5 rfl rfl<|ws1 ty5 rfl rfl (rfl) hs (fun w hs=>?_)
   refine wZ<|cr<|wm<|wP ((s.length+(j+1):Nat):Int)<|wA<|wZ<|(show _∧_ from⟨rfl,_,?_,j+1,more.drop 1,by omega,rfl,?_,?_,rfl,rfl,rfl,trivial⟩)
   ·omega
   ·match more,hm with
    | [],hm=>simp at hm;omega
    | x::more,hm=>
     have e:(u8s s++pads j++x::more).set (0+(s.length+j)*1) (Value.int .u8 169)=u8s s++pads (j+1)++more:=by
      rw[Nat.zero_add,Nat.mul_one,←hlen,set_append_right _ _ (Nat.le_refl _),Nat.sub_self]
      simp[pads,replicate_succ',append_assoc]
     exact hs.cast e
   ·simp[hm];omega
  ·obtain rfl:j=67:=by omega
   obtain rfl:more=[]:=eq_nil_of_length_eq_zero (by omega)
   refine CW.exit<|sr<|wm<|wm<|wL u76 rfl<|wV (run_sliceSl0  u76 ty5 rfl rfl rfl (by simp) (by omega) (by omega))<|wA<|wZ<|CW.ret ?_
   refine fin_ret1 rfl ?_
   rw[append_nil] at hs
   exact⟨b8,rfl,hs⟩
theorem lent2{S:List Nat}{L:OL}{w0 w:World}{b c:Nat}{s:U8} (hs:Step S ((b,LendS s)::L) w0 w):Sl w 1 (.slice (some ⟨b,0,none⟩) s.length c) s.length (u8s s):=
 .mk (by simp[u8s]) (At.of_blk (T:=5) hs.hd).left
theorem kept2_spec{u:Value}{s:U8}{b:Nat} (w0:World) (hl:Sl w0 1 u s.length (u8s s)) (hbd:s.length≤4398046511104) (hb:w0.heap[b]?=some (LendS s)) :
  CP 44 #[.slice (some ⟨b,0,none⟩) s.length (s.length+67),u] w0 fun e w'=>e=.returned (.bool true)∧Step [b] [] w0 w':=by
 have hs:Step [b] [(b,LendS s)] w0 w0:=Step.start (L:=[(b,LendS s)]) (by simp) (by intro p hp;simp at hp;subst hp;exact hb)
 have hlen:(u8s s++pads 67).length=s.length+67:=by simp[u8s,pads]
 refine calls (n:=45) Tryz.func44 rfl rfl rfl ?_
 refine sr<|wA<|wZ<|sr<|wm<|wV (run_toString u76 u9 u5 rfl (lent2 hs))<|wm<|wV (run_toString u76 u9 u5 rfl (hl))<|wV (run_bT (run_strEq rfl rfl) (by rfl))<|wA<|wZ<|sr<|wm<|wm<|wL u76 rfl<|wP ((s.length+67:Nat):Int)<|wV (run_sliceSl0  u76 ty5 rfl rfl rfl (by simp) (by omega) (by omega))<|wA<|wZ<|cq<|sr ?_
 refine wm<|wL u76 rfl<|wA<|wZ<|cB<|CW.loop (fun m f w'=>∃i,i≤67∧m=67 - i∧Step [b] [(b,LendS s)] w0 w'∧Holds f [(5,.bool true),(6,.slice (some ⟨b,0,none⟩) (s.length+67) (s.length+67)),(7,.int .i64 (s.length+i:Nat))]) (m:=67) ?_ ?_
 ·exact⟨0,by omega,by omega,hs,rfl,rfl,rfl,trivial⟩
 ·rintro m f w ⟨i,hi,rfl,hs,hf⟩
  have ob:=hf.chain
  obtain⟨g,rfl⟩:=ob
  refine cq<|sr<|wm<|wm<|wL u76 rfl<|wV (run_lss rfl rfl)<|wZ<|CW.condP rfl (fun h=>?_) (fun h=>?_)
  ·have hlt:i<67:=by omega
   have hx:(u8s s++pads 67)[0+(s.length+i)*1]?=some (.int .u8 169):=by
    rw[getElem?_append_right (by rw[u8s_len];omega)]
    exact pads_get (by rw[u8s_len];omega)
   refine ck<|cq<|cB<|cr<|wm<|wm<|wy<|wm<|wy<|wm<|wy<|wI u76 ty5 rfl rfl<|wy<|wl ty5 rfl (hs.c0 hx)<|wy<|wV (run_bT (run_eql rfl rfl) (by rfl))<|pT<|wA<|wZ<|cr<|wm<|wP ((s.length+(i+1):Nat):Int)<|wA<|wZ ?_
   refine(show _∧_ from⟨rfl,_,?_,i+1,by omega,rfl,hs,rfl,rfl,rfl,trivial⟩)
   omega
  ·refine CW.exit<|cq<|sr<|wA<|wZ<|cB<|CW.loop (fun m f w'=>∃i cs,i≤s.length+67∧m=s.length+67 - i∧cs.length=s.length+67∧Step [b] [(b,blk 5 cs)] w0 w'∧Holds f [(5,.bool true),(6,.slice (some ⟨b,0,none⟩) (s.length+67) (s.length+67)),(8,.int .i64 i)]) (m:=s.length+67) ?_ ?_
   ·exact⟨0,_,by omega,by omega,hlen,hs,rfl,rfl,rfl,trivial⟩
   ·rintro m f w ⟨i,cs,hi,rfl,hcs,hs,hf⟩
    have ob:=hf.chain
    obtain⟨g,rfl⟩:=ob
    refine cq<|sr<|wm<|wm<|wL u76 rfl<|wV (run_lss rfl rfl)<|wZ<|CW.condP rfl (fun h=>?_) (fun h=>?_)
    ·have hlt:i<s.length+67:=by omega
     refine ck<|cq<|cB<|cr<|wm<|wm<|wI u76 ty5 rfl rfl<|ws1 ty5 rfl rfl (rfl) hs (fun w hs=>?_)
     refine wZ<|cr<|wm<|wP ((i+1:Nat):Int)<|wA<|wZ<|(show _∧_ from⟨rfl,_,?_,i+1,_,by omega,rfl,?_,hs,rfl,rfl,rfl,trivial⟩)
     ·omega
     ·rw[length_set,hcs]
    ·refine CW.exit<|sr<|wm<|wA<|wZ<|CW.ret ?_
     refine fin_ret1 rfl ?_
     exact⟨rfl,hs.clear⟩
theorem putRun_okA:∀{l:List (List UInt8)}{t:AS},t.Ok→(putRun t l).2.Ok
 | [],t,h=>h
 | x::l,t,h=>by
  by_cases c:(t.put x).2.1≠0
  ·rw[putRun_bad c];exact h.put x
  ·rw[putRun_ok (by simpa using c)];exact putRun_okA (h.put x)
theorem unpR_okA{s:AS} (ok:s.Ok) (bs:U8) (of:List (List UInt8)):(unpR s bs of).2.2.Ok:=by
 unfold unpR
 split
 ·exact ok
 ·split
  ·exact ok
  ·split
   ·exact ok
   ·exact putRun_okA ok
theorem unpR_32{s:AS} (ok:s.Ok) (bs:U8) (of:List (List UInt8)):(unpR s bs of).1.length=32:=by
 unfold unpR
 split
 ·rfl
 ·split
  ·rfl
  ·split
   ·rfl
   ·show(if _ then _ else _:U8).length=32
    split
    ·exact frontL_len ok.k2
    ·rfl
theorem perm_u1{α:Type}{a c:α}{LR L R D:List α}:((a::(LR++(L++(R++D))))++[c]).Perm ((c::a::LR)++(L++(R++D))):=by
 classical exact perm_iff_count.2 fun x=>by simp only[count_append,count_cons,count_nil];omega
theorem out_hd{S:List Nat}{b:Nat}{o:Obj}{X Y:OL}{w0 w:World} (hs:Step S ((b,o)::X) w0 w) (h:∀p∈Y,p∈X):b∉Y.map (·.1):=by
 have hn:=hs.nodup
 rw[map_cons,nodup_cons] at hn
 intro hb
 have ob:=mem_map.1 hb
 obtain⟨p,hp,hpe⟩:=ob
 exact hn.1 (mem_map.2 ⟨p,h p hp,hpe⟩)
section
variable{wd:Int}{x:Stup}{v:Value}{bs:U8}
set_option maxHeartbeats 16000000 in
theorem flowUnpacks_spec (w0:World) (hx:x.Ok w0) (hv:Sl w0 1 v bs.length (u8s bs)) (hroom:Room v) (hlen:bs.length≤4398046511104) :
  CP 11 #[.int .i64 wd,.agg x.cells.toArray,v] w0 (Ret0 (.bool true) w0):=by
 have hs:Step [] [] w0 w0:=Step.refl w0
 have hcl:x.cells.length=6:=rfl
 have ob:=hv.form
 obtain⟨va,vc,rfl⟩:=ob
 by_cases hbad:(wd<1∨32<wd)∨¬(0≤x.cap∧x.cap≤67108864)
 ·refine calls (n:=73) Tryz.func11 rfl rfl rfl ?_
  refine sr<|WL.box (cs:=x.cells) rfl rfl rfl hs (fun b4 w hs=>?_)
  refine wA<|wZ<|cq<|sr<|wE rfl (run_call en15 rfl rfl) (known8_spec _) ?_
  rintro e w ⟨rfl,hq⟩
  refine⟨_,rfl,?_⟩
  replace hs:=hs.callE hq
  refine wN rfl<|wZ<|CW.cond rfl (fun h=>?_) (fun h=>?_)
  ·cases h
  refine ck<|sr<|wm<|wR ty28 rfl hcl hs.a0<|wE rfl (run_call en16 rfl rfl) (made8_bad hbad rfl _) ?_
  rintro e w ⟨rfl,hq⟩
  refine⟨_,rfl,?_⟩
  replace hs:=hs.callE hq
  refine wm<|wx rfl rfl<|wx rfl rfl<|wA<|wA<|wZ<|cq<|sr<|wm<|wN rfl<|wm<|wy<|wm ?_
  refine wy<|wV (run_nilNil u32 rfl rfl)<|pF<|wZ<|CW.cond rfl (fun h=>?_) (fun h=>?_)
  ·refine sr<|wm<|wA<|wZ<|CW.ret ?_
   refine fin_ret1 rfl ?_
   exact⟨rfl,hs.clear⟩
  ·cases h
 have ob:∃k:Nat,wd=k:=⟨wd.toNat,by omega⟩
 obtain⟨k,rfl⟩:=ob
 have ob:∃c:Nat,x.cap=c:=⟨x.cap.toNat,by omega⟩
 obtain⟨c,hc⟩:=ob
 refine calls (n:=73) Tryz.func11 rfl rfl rfl ?_
 refine sr<|WL.box (cs:=x.cells) rfl rfl rfl hs (fun b4 w hs=>?_)
 refine wA<|wZ<|cq<|sr<|wE rfl (run_call en15 rfl rfl) (known8_spec _) ?_
 rintro e w ⟨rfl,hq⟩
 refine⟨_,rfl,?_⟩
 replace hs:=hs.callE hq
 refine wN rfl<|wZ<|CW.cond rfl (fun h=>?_) (fun h=>?_)
 ·cases h
 refine ck<|sr<|wm<|wR ty28 rfl hcl hs.a0<|wE rfl (run_call en16 rfl rfl) (made8_spec (by omega) (by omega) (by omega) hc _ (hx.step0 hs.clear)) ?_
 rintro e w ⟨bw,bp,br,rfl,s,roots,vR,LR,L,R,D,hM,few,hsk,hrl⟩
 refine⟨_,rfl,?_⟩
 have hs2:=Step.call0 hs hM.hs
 replace hs:=Step.perm hs2 perm_u1
 refine wm<|wx rfl rfl<|wx rfl rfl<|wA<|wA<|wZ ?_
 have ok:=hM.ok
 have ob:=goF_some s.k ok.k2 (upP s.k bs).2
 obtain⟨gf,of,kk,hG⟩:=ob
 have oku:=unpR_okA ok bs of
 have h32:=unpR_32 ok bs of
 refine cq<|sr<|wm<|wN rfl<|wm<|wy<|wm<|wy<|wV (run_ptrNil u32 rfl rfl)<|pF<|wZ<|CW.cond rfl (fun h=>?_) (fun h=>?_)
 ·cases h
 refine ck<|sr<|wm<|wE rfl (run_call en41 rfl rfl) (lend2_spec _ (hv.step0 hs.clear) hlen) ?_
 rintro e w ⟨bm,rfl,hq⟩
 refine⟨_,rfl,?_⟩
 replace hs:=hs.call0 hq
 refine wA<|wZ ?_
 replace hs:Step [] (((bm,LendS bs)::(b4,blk 28 x.cells)::(bw,blk 42 (w8C bp br vR))::LR)++(L++(R++D))) w0 w:=hs
 have hmv:∀{w1:World}{Y:OL},Step (List.map (·.1) (L++D)) Y w w1→Sl w1 1 (.slice (some ⟨bm,0,none⟩) bs.length (bs.length+67)) bs.length (u8s bs):=fun h=>(lent2 hs).step h (out_hd hs fun p hp=>by rcases mem_append.1 hp with hp | hp <;> simp[hp])
 have hun:=unpack_spec (w0:=w) hM.pr ok few (by omega) hmv (by omega) hG (Two.live (A:=_::_::_::LR) hs)
 have hur:=fun{w1:World}{D1:OL} hv2 h=>unpackR_spec (w0:=w1) (v:=.slice va bs.length vc) (hM.rr.mono (D':=D1++D) mem_right) ok few (by omega) hv2 hroom (by omega) hG h
 have ob:∃un,unpR s bs of=un:=⟨_,rfl⟩
 obtain⟨un,hune⟩:=ob
 simp only[hune] at hun hur oku h32
 have hdl:(u8s un.1).length=32:=by rw[u8s,length_map,h32]
 refine sr<|wm<|wn rfl<|wF 0 u42 rfl ty39 rfl<|wl ty39 rfl (hs.c2 rfl)<|wm<|wE rfl (run_call en42 rfl rfl) (hun) ?_
 rintro e w ⟨L1,D1,rfl,hP1,hq⟩
 refine⟨_,rfl,?_⟩
 replace hs:=Two.put (A:=_::_::_::LR) hs hq
 refine wm<|wx rfl rfl<|wx rfl rfl<|WL.alloc ty44 rfl hs (fun b10 w hs=>?_)
 refine WL.storeAll ty44 rfl rfl ((hdl)) ((Cells1.u8s _)) hs (by rfl) (fun w hs=>?_)
 refine wA<|wZ ?_
 replace hs:Step [] (((b10,blk 44 (u8s un.1))::(bm,LendS bs)::(b4,blk 28 x.cells)::(bw,blk 42 (w8C bp br vR))::LR)++(L1++(R++(D1++D)))) w0 w:=hs
 have hbv:∀{w1:World}{Y:OL},Step (List.map (·.1) (R++(D1++D))) Y w w1→Sl w1 1 (.slice va bs.length vc) bs.length (u8s bs):=fun h=>(hv.step0 hs.clear).stepE h (OutE.new hs hv (.inr (outside_nil _)) fun p hp=>by rcases mem_append.1 hp with hp | hp <;> simp[hp])
 have hur2:=hur hbv (Two.rlive (A:=_::_::_::_::LR) hs)
 refine sr<|wm<|wn rfl<|wF 1 u42 rfl ty40 rfl<|wl ty40 rfl (hs.c3 rfl)<|wm<|wE rfl (run_call en43 rfl rfl) (hur2) ?_
 rintro e w ⟨R1,D2,rfl,hR1,hq⟩
 refine⟨_,rfl,?_⟩
 replace hs:=Two.rput (A:=_::_::_::_::LR) hs hq
 refine wm<|wx rfl rfl<|wx rfl rfl<|WL.alloc ty44 rfl hs (fun b12 w hs=>?_)
 refine WL.storeAll ty44 rfl rfl ((hdl)) ((Cells1.u8s _)) hs (by rfl) (fun w hs=>?_)
 refine wA<|wZ ?_
 have hP2:PRep bp un.2.2 (D2++(D1++D)) L1:=hP1.mono mem_right
 have hal:=fun{w:World} h1 h2=>alike8_spec (w0:=w) hP2 hR1 oku h1 h2
 replace hs:Step [] ((bm,LendS bs)::(((b12,blk 44 (u8s un.1))::(b10,blk 44 (u8s un.1))::(b4,blk 28 x.cells)::(bw,blk 42 (w8C bp br vR))::LR)++(L1++(R1++(D2++(D1++D)))))) w0 w:=hs.perm (by classical exact perm_iff_count.2 fun x=>by simp only[count_append,count_cons];omega)
 have hK:∀{Y:OL}{w:World},Step [] (((b12,blk 44 (u8s un.1))::(b10,blk 44 (u8s un.1))::(b4,blk 28 x.cells)::(bw,blk 42 (w8C bp br vR))::LR)++Y) w0 w→Step [] [(b12,blk 44 (u8s un.1)),(b10,blk 44 (u8s un.1)),(b4,blk 28 x.cells),(bw,blk 42 (w8C bp br vR))] w0 w:=fun {Y w} h=>Step.dropR (L1:=[_,_,_,_]) (L2:=LR++Y) h
 have hkp:=fun{w1:World}{Y:OL} (h:Step [] ((bm,LendS bs)::Y) w0 w1)=>kept2_spec w1 (s:=bs) (u:=.slice va bs.length vc) (b:=bm) (hv.step0 h.clear) hlen h.hd
 refine cq<|CW.any (A:=fun w=>Step [] [(b12,blk 44 (u8s un.1)),(b10,blk 44 (u8s un.1)),(b4,blk 28 x.cells),(bw,blk 42 (w8C bp br vR))] w0 w) (C:=fun w=>Step [] [(b12,blk 44 (u8s un.1)),(b10,blk 44 (u8s un.1)),(b4,blk 28 x.cells),(bw,blk 42 (w8C bp br vR))] w0 w) 1000000 25 mixedP rfl ?_
 replace hs:=hs.drew
 refine aM 0 rfl<|aM 1 rfl<|AL.one 2 (by kernel_rfl) rfl (by exact hK hs.tail) (by exact hK hs.tail) ?_
 refine wE rfl (run_call en44 rfl rfl) (hkp hs) ?_
 rintro e w ⟨rfl,hq2⟩
 refine⟨_,rfl,?_⟩
 replace hs:=Step.call (L1:=[_]) (L':=[]) hs hq2
 refine wZ<|⟨rfl,?_⟩
 refine aM 3 rfl<|AL.valY 4 rfl (by kernel_rfl) rfl rfl rfl rfl (fun w hs=>run_loadN ty44 rfl hdl hs.a1) ?_
 refine AL.valY 5 rfl (by kernel_rfl) rfl rfl rfl rfl (fun w hs=>run_loadN ty44 rfl hdl hs.a0) ?_
 refine AL.valY 6 rfl (by kernel_rfl) rfl rfl rfl rfl (fun w hs=>run_bT (run_eqDig h32 h32 rfl rfl) rfl) ?_
 refine aV 7 rfl (fun w hs=>run_pickT rfl)<|aM 8 rfl<|AL.valY 9 rfl (by kernel_rfl) rfl rfl rfl rfl (fun w hs=>run_move) ?_
 refine AL.valY 10 rfl (by kernel_rfl) rfl rfl rfl rfl (fun w hs=>run_move) ?_
 refine AL.valY 11 rfl (by kernel_rfl) rfl rfl rfl rfl (fun w hs=>run_bT (run_eql rfl rfl) (by rfl)) ?_
 refine aV 12 rfl (fun w hs=>run_pickT rfl)<|aM 13 rfl<|AL.valY 14 rfl (by kernel_rfl) rfl rfl rfl rfl (fun w hs=>run_move) ?_
 refine AL.valY 15 rfl (by kernel_rfl) rfl rfl rfl rfl (fun w hs=>run_nilCheck rfl) ?_
 refine AL.valY 16 rfl (by kernel_rfl) rfl rfl rfl rfl (fun w hs=>run_field (o':=0) u42 rfl ty39 rfl rfl rfl) ?_
 refine AL.valY 17 rfl (by kernel_rfl) rfl rfl rfl rfl (fun w hs=>run_load1 ty39 rfl (hs.c3 rfl)) ?_
 refine AL.valY 18 rfl (by kernel_rfl) rfl rfl rfl rfl (fun w hs=>run_move) ?_
 refine AL.valY 19 rfl (by kernel_rfl) rfl rfl rfl rfl (fun w hs=>run_nilCheck rfl) ?_
 refine AL.valY 20 rfl (by kernel_rfl) rfl rfl rfl rfl (fun w hs=>run_field (o':=1) u42 rfl ty40 rfl rfl rfl) ?_
 refine AL.valY 21 rfl (by kernel_rfl) rfl rfl rfl rfl (fun w hs=>run_load1 ty40 rfl (hs.c3 rfl)) ?_
 refine AL.one 22 (by kernel_rfl) rfl (by exact hK hs) (by exact hK hs) ?_
 refine wy<|wE rfl (run_call en22 rfl rfl) (hal (Two.live (A:=_::_::_::_::LR) hs) (Two.rlive (A:=_::_::_::_::LR) hs)) ?_
 rintro e w ⟨rfl,hq3⟩
 refine⟨_,rfl,?_⟩
 replace hs:=hs.callE hq3
 refine wZ<|⟨rfl,?_⟩
 refine aV 23 rfl (fun w hs=>run_pickT rfl)<|aA 24 rfl<|AL.end (by kernel_rfl) (by exact hK hs) (by exact hK hs) ?_
 refine CW.ret ?_
 refine fin_ret1 rfl ?_
 exact⟨rfl,hs.clear⟩
end
end Go.Gx
namespace Go.Gx
open Go.Proofs List
theorem beVal_be (u:Nat):∀k,beVal (be u k)=u % 256 ^ k
 | 0=>by simp[be,beVal,Nat.mod_one]
 | k+1=>by
  have e8:(2:Nat) ^ 8=256:=rfl
  rw[be,beVal_cons,beVal_be u k,be_len,UInt8.toNat_ofNat',e8,Nat.mod_pow_succ (b:=256),Nat.mul_comm (u / 256 ^ k % 256),Nat.add_comm]
theorem nbF_top{u:Nat}:∀m,u<256 ^ m→u<256 ^ nbF u m
 | 0,h=>h
 | m+1,h=>by
  unfold nbF
  split
  ·rename_i h0
   refine nbF_top m ?_
   have hp:0<256 ^ m:=Nat.pow_pos (by decide)
   have:=Nat.lt_mul_div_succ u hp
   rw[h0] at this
   omega
  ·exact h
theorem getD_app{a b:U8}{c:UInt8}:(a++c::b).getD a.length 0=c:=by simp
theorem number_long{a t r:U8} (h1:0<r.length) (h8:r.length≤8) (h0:r[0]≠0) (hv:¬beVal r<248):numberP (a++(UInt8.ofNat (247+r.length)::r++t)) a.length=.ok (beVal r,a.length+(1+r.length)):=by
 have hn:(UInt8.ofNat (247+r.length)).toNat=247+r.length:=by rw[UInt8.toNat_ofNat',Nat.mod_eq_of_lt (by omega)]
 have htk:((a++(UInt8.ofNat (247+r.length)::r++t)).drop (a.length+1)).take r.length=r:=by
  rw[drop_append]
  simp[take_append]
 have hg:(a++(UInt8.ofNat (247+r.length)::r++t)).getD a.length 0=UInt8.ofNat (247+r.length):=getD_app
 have hg1:(a++(UInt8.ofNat (247+r.length)::r++t)).getD (a.length+1) 0=r[0]:=by
  have h2:(UInt8.ofNat (247+r.length)::r++t)[1]?=some r[0]:=by
   show(r++t)[0]?=_
   rw[getElem?_append_left h1,getElem?_eq_getElem h1]
  simp only[getD_eq_getElem?_getD]
  rw[getElem?_append_right (by omega),show a.length+1 - a.length=1 by omega,h2]
  rfl
 unfold numberP
 rw[if_neg (by simp),hg,hn,if_neg (by omega),show 247+r.length - 247=r.length by omega,if_neg (by simp;omega),hg1,htk,if_neg (by rintro(h | h);exact h0 h;exact hv h),Nat.add_assoc]
theorem number_form{a t:U8}{u:Nat} (hu:u<18446744073709551616):numberP (a++(formB u++t)) a.length=.ok (u,a.length+(formB u).length):=by
 by_cases h:u<248
 ·have e:formB u=[UInt8.ofNat u]:=by unfold formB;rw[if_pos h]
  have hn:(UInt8.ofNat u).toNat=u:=by rw[UInt8.toNat_ofNat',Nat.mod_eq_of_lt (by omega)]
  unfold numberP
  rw[e,if_neg (by simp)]
  simp only[cons_append,nil_append,getD_app,hn]
  rw[if_pos h]
  rfl
 ·have e:formB u=UInt8.ofNat (247+nbF u 8)::be u (nbF u 8):=by unfold formB;rw[if_neg h]
  have h8:(256:Nat) ^ 8=18446744073709551616:=by decide
  have htop:=nbF_top (u:=u) 8 (by omega)
  have hle:=nbF_le u 8
  have hpos:1≤nbF u 8:=by
   rcases Nat.eq_zero_or_pos (nbF u 8) with h0 | h0
   ·rw[h0] at htop;simp at htop;omega
   ·exact h0
  have hbe:beVal (be u (nbF u 8))=u:=by rw[beVal_be,Nat.mod_eq_of_lt htop]
  have hbl:=be_len u (nbF u 8)
  have hff:=form_first (r:=be u (nbF u 8)) (by rw[be_len];omega) (by rw[be_len];omega)
  rw[hbe] at hff
  have hlen:(formB u).length=1+nbF u 8:=by rw[e,length_cons,be_len];omega
  have hno:=hff.1 (by rw[hlen,be_len])
  have:=number_long (a:=a) (t:=t) (r:=be u (nbF u 8)) (by omega) (by omega) (fun h0=>hno (.inl h0)) (by rw[hbe];exact h)
  rw[hbe,hbl,←e,←hlen] at this
  exact this
theorem num_form{a t:U8}{u:Nat} (hu:u<9223372036854775808):numP (a++(formB u++t)) a.length=.ok (u,a.length+(formB u).length):=by
 unfold numP
 rw[number_form (by omega)]
 simp only
 rw[if_neg (by omega)]
theorem bytes_form{a t s:U8} (hs:s.length<9223372036854775808):bytesP (a++(formB s.length++s++t)) a.length=.ok (s,a.length+(formB s.length++s).length):=by
 unfold bytesP
 rw[append_assoc,num_form hs]
 simp only
 rw[if_neg (by simp;omega)]
 congr 2
 ·rw[←append_assoc,←length_append,drop_left,take_left]
 ·simp;omega
theorem blbs_form{t:U8}:∀{l:List (List UInt8)}{a:U8},(∀x∈l,x.length≤1048576)→blbsP (a++((l.flatMap fun x=>formB x.length++x)++t)) l.length a.length=.ok (l,a.length+(l.flatMap fun x=>formB x.length++x).length)
 | [],a,_=>by simp[blbsP]
 | x::l,a,ho=>by
  have hx:=ho x (by simp)
  rw[length_cons,blbsP]
  have e1:a++(((x::l).flatMap fun x=>formB x.length++x)++t)=a++(formB x.length++x++((l.flatMap fun x=>formB x.length++x)++t)):=by simp[append_assoc]
  have e2:a++(((x::l).flatMap fun x=>formB x.length++x)++t)=(a++(formB x.length++x))++((l.flatMap fun x=>formB x.length++x)++t):=by simp[append_assoc]
  have h1:=bytes_form (a:=a) (t:=(l.flatMap fun x=>formB x.length++x)++t) (s:=x) (by omega)
  have h2:=blbs_form (t:=t) (a:=a++(formB x.length++x)) (l:=l) (fun y hy=>ho y (by simp[hy]))
  have hL:(a++(formB x.length++x)).length=a.length+(formB x.length++x).length:=length_append
  rw[←e1] at h1
  rw[←e2,hL] at h2
  rw[h1]
  simp only
  rw[if_neg (by omega),h2]
  simp only
  congr 2
  simp only[flatMap_cons,length_append]
  omega
theorem pk_form{k:Nat}{l:List (List UInt8)} (hk:k<9223372036854775808) (h1:l≠[]) (h2:l.length≤65536) (h3:∀x∈l,x.length≤1048576):pkP k (packB k l)=.ok (l,(packB k l).length):=by
 have hl:0<l.length:=length_pos_iff.2 h1
 have e1:packB k l=[]++(formB 5++(formB k++(formB l.length++l.flatMap fun x=>formB x.length++x))):=by simp[packB,append_assoc]
 have e2:packB k l=formB 5++(formB k++(formB l.length++l.flatMap fun x=>formB x.length++x)):=by simp[packB,append_assoc]
 have e3:packB k l=(formB 5++formB k)++(formB l.length++l.flatMap fun x=>formB x.length++x):=by simp[packB,append_assoc]
 have e4:packB k l=(formB 5++formB k++formB l.length)++((l.flatMap fun x=>formB x.length++x)++[]):=by simp[packB,append_assoc]
 have n1:=num_form (a:=[]) (t:=formB k++(formB l.length++l.flatMap fun x=>formB x.length++x)) (u:=5) (by decide)
 have n2:=num_form (a:=formB 5) (t:=formB l.length++l.flatMap fun x=>formB x.length++x) (u:=k) hk
 have n3:=num_form (a:=formB 5++formB k) (t:=l.flatMap fun x=>formB x.length++x) (u:=l.length) (by omega)
 have n4:=blbs_form (t:=[]) (a:=formB 5++formB k++formB l.length) (l:=l) h3
 rw[←e1] at n1
 rw[←e2] at n2
 rw[←e3] at n3
 rw[←e4] at n4
 simp only[length_nil,Nat.zero_add,length_append] at n1 n2 n3 n4
 unfold pkP
 rw[n1]
 simp only[if_true]
 rw[n2]
 simp only[if_true]
 rw[n3]
 simp only
 rw[if_neg (by omega),n4]
 congr 2
 rw[packB]
 simp only[length_append]
theorem up_form{k:Nat}{l:List (List UInt8)} (hk:k<9223372036854775808) (h1:l≠[]) (h2:l.length≤65536) (h3:∀x∈l,x.length≤1048576):upP k (packB k l)=(0,l):=by
 unfold upP
 rw[pk_form hk h1 h2 h3]
 simp
end Go.Gx
namespace Go.Gx
open Go.Proofs List
attribute [local irreducible] shaL cutD frontL decL decE
section
variable{s:AS}{rm:Rm}{U:U8→Prop}
theorem seqS_in{f:Std→WS→Int×WS} (hf:∀x t,MLe t (f x t).2){T:WS}:∀(l:List Std) (t:WS),(∀y∈l,∀u,(f y u).1=0→MLe (f y u).2 T→(∀p∈u.m,U p.1)→∀p∈(f y u).2.m,U p.1)→(seqS f l t).1=0→MLe (seqS f l t).2 T→(∀p∈t.m,U p.1)→∀p∈(seqS f l t).2.m,U p.1
 | [],t,_,_,_,ht=>ht
 | y::l,t,h,h0,hT,ht=>by
  by_cases c:(f y t).1≠0
  ·rw[seqS,if_pos c] at h0
   exact absurd h0 c
  rw[seqS,if_neg c] at h0 hT⊢
  have hp:=seqS_mle hf l (f y t).2
  exact seqS_in hf l _ (fun z hz=>h z (by simp[hz])) h0 hT (h y (by simp) t (by simpa using c) (fun p hq=>hT p (hp p hq)) ht)
theorem standP_in{T:WS} (hU:∀y,U y→(y,true)∈T.m→∀e∈partsD s y,U e):∀(n:Nat) (x:Std) (t:WS),(standP s rm n x t).1=0→MLe (standP s rm n x t).2 T→U x.d→(∀p∈t.m,U p.1)→∀p∈(standP s rm n x t).2.m,U p.1
 | 0,x,t,h,_,_,_=>by rw[standP] at h;cases h
 | n+1,x,t,h,hT,hx,ht=>by
  have hv:(visit s rm x t).1=0:=by
   by_cases c:(visit s rm x t).1=0
   ·exact c
   ·rw[standP,if_pos c] at h
    exact absurd h c
  rw[standP,if_neg (fun k=>k hv)] at h hT⊢
  have hp:=seqS_mle (fun y u p hp=>standP_mle (s:=s) (rm:=rm) n y (push y u) p (push_mle y u p hp)) (visit s rm x t).2.1 (visit s rm x t).2.2
  have hm:=visit_m hv
  have hxT:(x.d,x.dir)∈T.m:=hT _ (hp _ (visit_met hv))
  have hkid:∀y∈(visit s rm x t).2.1,U y.d:=by
   rcases (visit_ok hv).2.2.2 with⟨hd,_,e⟩ | ⟨_,_,e⟩
   ·intro y hy
    rw[e] at hy
    have ob:=mem_map.1 hy
    obtain⟨z,hz,rfl⟩:=ob
    rw[hd] at hxT
    exact hU _ hx hxT _ (mem_map_of_mem hz)
   ·intro y hy
    rw[e] at hy
    cases hy
  refine seqS_in (fun y u p hp=>standP_mle n y (push y u) p (push_mle y u p hp)) _ _ (fun y hy u h1 h2 hu=>standP_in hU n y (push y u) h1 h2 (hkid y hy) (fun p hp=>hu p (by rw[push_m] at hp;exact hp))) h hT fun p hp=>?_
  rw[hm] at hp
  rcases mem_append.1 hp with hp | hp
  ·exact ht p hp
  ·rw[mem_singleton] at hp
   rw[hp];exact hx
end
section
variable{P:U8→List (List UInt8)}{ds g o g' o':List (List UInt8)}{k:Nat}
theorem Goes.closed (h:Goes P ds g o g' o' k):(∀d∈ds,d∈g')∧∀d∈g',d∈g∨∀x∈P d,x∈g':=by
 induction h with
 | nil g o=>exact⟨(fun d hd=>by cases hd),fun d hd=>.inl hd⟩
 | @skip d ds g o g' o' k hd h ih=>exact⟨fun x hx=>(mem_cons.1 hx).elim (fun e=>by rw[e];exact h.keep _ hd) (ih.1 x),ih.2⟩
 | @go d ds g o g1 o1 g' o' k1 k2 hd h1 h2 i1 i2=>
  have hd1:d∈g1:=h1.keep d (by simp)
  refine⟨fun x hx=>(mem_cons.1 hx).elim (fun e=>by rw[e];exact h2.keep _ hd1) (i2.1 x),fun x hx=>?_⟩
  rcases i2.2 x hx with hx1 | hx1
  ·rcases i1.2 x hx1 with hx2 | hx2
   ·rcases mem_append.1 hx2 with hx2 | hx2
    ·exact .inl hx2
    ·rw[mem_singleton] at hx2
     subst hx2
     exact .inr fun y hy=>h2.keep _ (i1.1 y hy)
   ·exact .inr fun y hy=>h2.keep _ (hx2 y hy)
  ·exact .inr hx1
theorem Goes.last{d:U8}{gf of:List (List UInt8)} (h:Goes P [d] [] [] gf of k):∃l,of=l++[d]:=by
 cases h with
 | skip h _=>cases h
 | go _ h1 h2=>cases h2;exact⟨_,rfl⟩
end
section
variable{s:AS}{d:U8}{t:WS}{gf of:List (List UInt8)}{k:Nat}
theorem goes_met{rm:Rm} (h:runs s rm [rootS d] ws0=(0,t)) (hm:Met s d t.m) (hG:Goes (partsM s t.m) [d] [] [] gf of k):of.Nodup∧(∀x,x∈of↔x∈ordM t.m)∧of.length=(ordM t.m).length:=by
 have hc:=hG.closed
 have ob:=hG.ext
 obtain⟨n,o,hn,ho,hp⟩:=ob
 rw[nil_append] at hn ho
 rw[←hn,←ho] at hp
 have hnd:=hG.nodup nodup_nil
 have hof:of.Nodup:=hp.nodup_iff.2 hnd
 have hsub:=hG.sub hm.sub (fun x hx=>by obtain rfl:=mem_singleton.1 hx;exact mem_of_getElem? hm.head) (fun x hx=>by cases hx)
 rw[runs_root] at h
 have hin:=standP_in (s:=s) (rm:=rm) (U:=fun x=>x∈gf) (T:=t) (fun y hy hym e he=>by
  rcases hc.2 y hy with h1 | h1
  ·cases h1
  ·exact h1 e (by rw[partsM,if_pos hym];exact he)) 34 (rootS d) ws0 (by rw[h]) (by rw[h];exact fun _ h=>h) (hc.1 d (by simp)) (fun p hp=>by cases hp)
 rw[h] at hin
 have hiff:∀x,x∈of↔x∈ordM t.m:=fun x=>by
  rw[hp.mem_iff]
  refine⟨hsub x,fun hx=>?_⟩
  rw[ordM_mem] at hx
  have ob:=mem_map.1 hx
  obtain⟨p,hp,rfl⟩:=ob
  exact hin p hp
 refine⟨hof,hiff,Nat.le_antisymm (nodup_len hof fun x hx=>(hiff x).1 hx) (nodup_len ordM_nodup fun x hx=>(hiff x).2 hx)⟩
end
theorem get_front{s:AS}{x:U8} (h:(s.get x).2=0):frontL (s.get x).1 s.k=x:=by
 unfold AS.get at h⊢
 split at h
 ·cases h
 ·rename_i b hb
  split at h
  ·rename_i hf;rw[if_pos hf];exact hf
  ·cases h
theorem putRun_all{k:Nat}:∀{l m:List (List UInt8)}{t:AS},PutOk k m t→(digsK k (m++l)).Nodup→(∀x∈l,x.length≤1048576)→((m++l).map fun x=>x.length+32).sum≤67108864→putRun t l=(0,putAll t l)∧PutOk k (m++l) (putAll t l)
 | [],m,t,h,_,_,_=>⟨rfl,by rw[append_nil];exact h⟩
 | x::l,m,t,h,hn,hl,hs=>by
  have e:m++x::l=(m++[x])++l:=by simp
  rw[e] at hn hs⊢
  have hn2:(digsK k (m++[x])).Nodup:=by
   rw[digsK,map_append,nodup_append] at hn
   exact hn.1
  rw[digsK_app,nodup_snoc] at hn2
  have hs2:((m++[x]).map fun x=>x.length+32).sum≤67108864:=by
   rw[map_append,sum_append] at hs
   omega
  have ob:=h.add hn2.2 (hl x (by simp)) hs2
  obtain⟨_,h0,h1⟩:=ob
  rw[putRun_ok h0]
  exact putRun_all h1 hn (fun y hy=>hl y (by simp[hy])) hs
theorem packB_sum (k:Nat) (l:List (List UInt8)):(l.map List.length).sum≤(packB k l).length:=by
 have h:∀l:List (List UInt8),(l.map List.length).sum≤(l.flatMap fun x=>formB x.length++x).length:=fun l=>by
  induction l with
  | nil=>exact Nat.le_refl _
  | cons x l ih=>rw[map_cons,sum_cons,flatMap_cons,length_append,length_append];omega
 have:=h l
 rw[packB]
 simp only[length_append]
 omega
theorem partsM_same{s t:AS}{m:List (List UInt8×Bool)} (h:∀p∈m,t.get p.1=s.get p.1):partsM t m=partsM s m:=by
 funext d
 unfold partsM
 split
 ·rename_i hd
  have:=h _ hd
  simp only at this
  rw[partsD,partsD,this]
 ·rfl
structure PkOk (s:AS) (d:(List UInt8)) (r:Int×WS) (gf of:List (List UInt8)) (kk:Nat) (l:List (List UInt8)):Prop where
 dig:digsK s.k l=of
 len:l.length=of.length
 small:∀x∈l,x.length≤1048576
 ne:l≠[]
 few:l.length≤65536
 up:upP s.k (packB s.k l)=(0,l)
 last:lastK s.k l=d
 put:PutOk s.k l (fitS s.k l)
 get:∀p∈r.2.m,(fitS s.k l).get p.1=s.get p.1
 same:runs (fitS s.k l) rmG [rootS d] ws0=r
 goF:GoF s.k l gf of kk
 un:unpR (newS s.k 67108864) (packB s.k l) of=(d,0,fitS s.k l)
 num:(fitS s.k l).X.length=(ordM r.2.m).length
 parts:partsM (fitS s.k l) r.2.m=partsM s r.2.m
 pack:packR (fitS s.k l) r of=(packB s.k l,0)
 first:packR s r of=(packB s.k l,0)
theorem pkOk{s:AS} (ok:s.Ok) (sm:Small s){d:U8}{r:Int×WS}{gf of:List (List UInt8)}{kk:Nat} (hd:d.length=32) (hr:runs s rmG [rootS d] ws0=r) (h0:r.1=0) (hml:r.2.m.length≤65536) (hG:Goes (partsM s r.2.m) [d] [] [] gf of kk) (hfit:(packB s.k (of.map fun x=>(s.get x).1)).length≤4194304):PkOk s d r gf of kk (of.map fun x=>(s.get x).1):=by
 have hr2:runs s rmG [rootS d] ws0=(0,r.2):=by rw[hr,←h0]
 have hm:=runs_met hd hr2
 have ob:=goes_met hr2 hm hG
 obtain⟨hnd,hiff,hlen⟩:=ob
 have ob:∃l,of.map (fun x=>(s.get x).1)=l:=⟨_,rfl⟩
 obtain⟨l,hl⟩:=ob
 rw[hl] at hfit⊢
 have hgot:∀x∈of,(s.get x).2=0:=fun x hx=>by
  have h1:=(hiff x).1 hx
  rw[ordM_mem] at h1
  have ob:=mem_map.1 h1
  obtain⟨p,hp,rfl⟩:=ob
  exact hm.got p hp
 have hdig:digsK s.k l=of:=by
  rw[←hl,digsK,map_map]
  conv=>rhs;rw[←List.map_id of]
  exact map_congr_left fun x hx=>get_front (hgot x hx)
 have hll:l.length=of.length:=by rw[←hl,length_map]
 have hsm:∀x∈l,x.length≤1048576:=fun x hx=>by
  rw[←hl] at hx
  have ob:=mem_map.1 hx
  obtain⟨y,_,rfl⟩:=ob
  exact sm.get y
 have ob:=hG.last
 obtain⟨of',hof'⟩:=ob
 have hne:l≠[]:=fun h=>by
  rw[h] at hll
  rw[hof'] at hll
  simp at hll
 have hol:=ordM_len r.2.m
 have hfew:l.length≤65536:=by omega
 have hup:=up_form (k:=s.k) (by have:=ok.k2;omega) hne hfew hsm
 have hlast:lastK s.k l=d:=by
  rw[lastK,←hl,hof',map_append]
  have e:((of'.map fun x=>(s.get x).1)++[d].map fun x=>(s.get x).1).getLastD []=(s.get d).1:=by
   rw[getLastD_eq_getLast?];simp
  rw[e]
  exact get_front (hgot d (by rw[hof'];simp))
 have hsum:(l.map fun x=>x.length+32).sum≤67108864:=by
  have h1:=sum_take (l:=l) l.length
  rw[take_length] at h1
  have h2:=packB_sum s.k l
  omega
 have ob:=putRun_all (k:=s.k) (l:=l) (m:=[]) (PutOk.nil ok.k1 ok.k2) (by rw[nil_append,hdig];exact hnd) hsm (by rw[nil_append];exact hsum)
 obtain⟨hrun,hput⟩:=ob
 rw[nil_append] at hput
 have hgs:∀p∈r.2.m,(fitS s.k l).get p.1=s.get p.1:=fun p hp=>by
  have h1:p.1∈of:=(hiff p.1).2 (by rw[ordM_mem];exact mem_map_of_mem hp)
  have h2:(s.get p.1).1∈l:=by rw[←hl];exact mem_map_of_mem h1
  have h3:=hput.get _ h2
  rw[get_front (hgot _ h1)] at h3
  rw[fitS,h3,←hgot _ h1]
 have hsame:runs (fitS s.k l) rmG [rootS d] ws0=r:=by
  rw[←hr]
  exact runs_same (by rw[hr];exact h0) (by rw[hr];exact hgs)
 have hgoF:GoF s.k l gf of kk:=fun _ _=>by
  rw[hlast,hsame,partsM_same hgs];exact hG
 have hfb:fitB s.k l of=true:=by
  rw[fitB_ok (by rw[hdig];exact hnd) (by rw[hlast,hsame];exact h0),hdig]
  simp
 have hk:(newS s.k 67108864).k=s.k:=rfl
 have hun:unpR (newS s.k 67108864) (packB s.k l) of=(d,0,fitS s.k l):=by
  rw[unpR_go (by omega) (by rw[hk,hup]) (by rw[hk,hup];exact hfb),hk,hup]
  show(if (putRun (newS s.k 67108864) l).1=0 then lastK s.k l else zD,putRun (newS s.k 67108864) l)=_
  rw[hrun,if_pos rfl,hlast]
  rfl
 have hom:of.map (fun x=>((fitS s.k l).get x).1)=l:=by
  rw[←hl]
  refine map_congr_left fun x hx=>?_
  have h1:=(hiff x).1 hx
  rw[ordM_mem] at h1
  have ob:=mem_map.1 h1
  obtain⟨p,hp,rfl⟩:=ob
  rw[hl,hgs p hp]
 have hkk:(fitS s.k l).k=s.k:=hput.hk
 have hpk:packR (fitS s.k l) r of=(packB s.k l,0):=by
  rw[packR,if_neg (fun h=>h h0),hom,hkk,if_pos hfit]
 have hp1:packR s r of=(packB s.k l,0):=by
  rw[packR,if_neg (fun h=>h h0),hl,if_pos hfit]
 exact⟨hdig,hll,hsm,hne,hfew,hup,hlast,hput,hgs,hsame,hgoF,hun,by rw[fitS,hput.num,hll,hlen],partsM_same hgs,hpk,hp1⟩
def Stay (M:List (List UInt8)) (s t:AS):Prop:=t.k=s.k∧∀d∈M,(s.get d).2=0∧t.get d=s.get d
section
variable{M:List (List UInt8)}{s t:AS}{d y:U8}
end
end Go.Gx
