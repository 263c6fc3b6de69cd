/- made: both Stores stand for one plain Store, whatever the Setup. What chapter 8's law knows: a directory of one file is reached. Any root's walk calls Get at most so often; a Setup in a later world. FlowReaches, walked. Arguments of the laws of flows, opened: a Setup, a Room. Going behind the parts: -/
import Derived.Test.YtplmnkogkfhaiaaGreatT8
import Derived.Test.YtplmnkogkfhaiaaGreatT2
import Derived.Test.YtplmnkogkfhaiaaGreatRows
import Derived.ProofKit
import Derived.OpenShut
import Derived.JoinedCond
import Derived.Deep.Slices
import Derived.Deep.Strs
import Derived.ChangeMaps5
import Derived.SliceStrings
set_option linter.unusedVariables false
set_option linter.unusedSimpArgs false
set_option maxRecDepth 100000
namespace Go.Gx
open Go.Proofs Go.RowKit List
attribute [local irreducible] shaL cutD frontL
theorem sl_form{w:World}{sz n:Nat}{v:Value}{cs:List Value} (h:Sl w sz v n cs):∃a c,v=.slice a n c:=by
 obtain⟨_,⟨a,c,rfl,h0⟩ | ⟨b,off,c,rfl,_⟩⟩:=h
 ·exact⟨a,c,by rw[h0]⟩
 ·exact⟨_,c,rfl⟩
theorem mem_y{b p:Nat×Obj}{LR Y Z:OL} (h:p∈Y):p∈b::(LR++(Y++Z)):=by simp[h]
theorem xcell{x:Stup}{w:World}{b3:Nat} (h:w.heap[b3]?=some (blk 28 x.cells)){j:Nat}{v:Value} (hj:x.cells[j]?=some v):w.cell? ⟨b3,0+j,none⟩=some v:=(At.of_blk h).cell hj
set_option maxHeartbeats 64000000 in
theorem made8_spec{k c:Nat} (hk1:1≤k) (hk:k≤32) (hc:c≤67108864){x:Stup} (hxc:x.cap=c) (w0:World) (hx:x.Ok w0):CP 16 #[.int .i64 (k:Nat),.agg x.cells.toArray] w0 fun e w'=>∃bw bp br,e=.returned (.tuple #[pt bw,.bool true])∧MI bw bp br k [] w0 100000000 400 w':=by
 have hs:Step [] [] w0 w0:=Step.refl w0
 have ob:=sl_form hx.sT
 obtain⟨Ta,Tc,hvT⟩:=ob
 have ob:=sl_form hx.sN
 obtain⟨Na,Nc,hvN⟩:=ob
 have ob:=sl_form hx.sB
 obtain⟨Ba,Bc,hvB⟩:=ob
 have ob:=sl_form hx.sE
 obtain⟨Ea,Ec,hvE⟩:=ob
 have ob:=sl_form hx.sP
 obtain⟨Pa,Pc,hvP⟩:=ob
 have hT1:x.cells[1]?=some (.slice Ta x.T.length Tc):=by rw[←hvT];rfl
 have hN2:x.cells[2]?=some (.slice Na x.N.length Nc):=by rw[←hvN];rfl
 have hB3:x.cells[3]?=some (.slice Ba x.B.length Bc):=by rw[←hvB];rfl
 have hE4:x.cells[4]?=some (.slice Ea x.E.length Ec):=by rw[←hvE];rfl
 have hP5:x.cells[5]?=some (.slice Pa x.P.length Pc):=by rw[←hvP];rfl
 have hsT:=hx.sT
 have hsN:=hx.sN
 have hsB:=hx.sB
 have hsE:=hx.sE
 have hsP:=hx.sP
 rw[hvT] at hsT
 rw[hvN] at hsN
 rw[hvB] at hsB
 rw[hvE] at hsE
 rw[hvP] at hsP
 refine calls (n:=288) Tryz.func16 rfl rfl rfl ?_
 refine sr<|WL.box (cs:=x.cells) rfl rfl rfl hs (fun b3 w hs=>?_)
 refine wA<|wA<|wZ<|sr<|wm<|wF 0 u28 rfl ty3 rfl<|wl ty3 rfl (hs.c0 (v:=.int .i64 (c:Nat)) (by show some (Value.int .i64 x.cap)=_;rw[hxc]))<|wE rfl (run_call en56 rfl rfl) (new_abs hk1 hk hc _) ?_
 rintro e w ⟨bp,L0,rfl,hP0,hq⟩
 refine⟨_,rfl,?_⟩
 replace hs:=Step.append_comm (L1:=L0) (L2:=[_]) (Step.call0 hs hq)
 refine wm<|wx rfl rfl<|wx rfl rfl<|wA<|wA<|wZ<|sr<|wm<|wF 0 u28 rfl ty3 rfl<|wl ty3 rfl (hs.c0 (v:=.int .i64 (c:Nat)) (by show some (Value.int .i64 x.cap)=_;rw[hxc]))<|wE rfl (run_call en58 rfl rfl) (rnew_abs hk1 hk hc _) ?_
 rintro e w ⟨br,R0,rfl,hR0,hq⟩
 refine⟨_,rfl,?_⟩
 replace hs:=Step.q5 (Step.call0 hs hq)
 refine wm<|wx rfl rfl<|wx rfl rfl<|wA<|wA<|wZ<|cq<|sr<|wm<|wm<|nF<|wm<|wy<|wm ?_
 refine wy<|wV (run_ptrNil u39 rfl rfl)<|wy<|wm<|wy<|wV (run_ptrNil u40 rfl rfl)<|wy<|wV (run_neqB u4 rfl rfl)<|pF<|wZ<|CW.cond rfl (fun h=>?_) (fun h=>?_)
 ·cases h
 refine ck<|cq<|sr<|wm<|wV (run_ptrNil u39 rfl rfl)<|wZ<|CW.cond rfl (fun h2=>?_) (fun h2=>?_)
 ·cases h2
 refine ck<|sr<|wm<|wm<|wV (run_build rfl ((bld_w8 _ _ _)))<|WL.box (cs:=w8C bp br (.slice none 0 0)) rfl rfl rfl hs (fun b53 w hs=>?_)
 refine wA<|wZ ?_
 have hXm:(b3,blk 28 x.cells)∈[(b3,blk 28 x.cells)]:=mem_singleton.2 rfl
 have hMI:MI b53 bp br k [(b3,blk 28 x.cells)] w0 0 0 w:=⟨newS k c,[],_,[],L0,R0,[],⟨hP0,hR0,newS_ok hk1 hk hc,Small.new k c,OwnSl.nil _ _,(fun d hd=>by cases hd),by
  have h:=hs.swap.perm (L':=[(b3,blk 28 x.cells)]++((b53,blk 42 (w8C bp br (.slice none 0 0)))::([]++(L0++(R0++[]))))) (by
   have e:[(b3,blk 28 x.cells)]++((b53,blk 42 (w8C bp br (.slice none 0 0)))::([]++(L0++(R0++[]))))=(b3,blk 28 x.cells)::(b53,blk 42 (w8C bp br (.slice none 0 0)))::(L0++R0):=by simp
   rw[e]
   exact(perm_append_comm.cons _).cons _)
  exact h⟩,newS_few,rfl,Nat.le_refl _⟩
 clear hs
 refine CW.seqM (fun f w=>MI b53 bp br k [(b3,blk 28 x.cells)] w0 40000000 200 w∧Holds f [(0,.int .i64 (k:Nat)),(3,pt b3),(6,pt bp),(8,pt br),(10,pt b53)]) ?_ ?_
 ·refine sr<|wA<|wZ<|cB<|CW.loop (fun z f w'=>∃i,i≤200∧i≤x.T.length∧z=200 - i∧MI b53 bp br k [(b3,blk 28 x.cells)] w0 (i*200000) i w'∧Holds f [(0,.int .i64 (k:Nat)),(3,pt b3),(6,pt bp),(8,pt br),(10,pt b53),(11,.int .i64 (i:Nat))]) (m:=200) ?_ ?_
  ·exact⟨0,by omega,Nat.zero_le _,rfl,hMI,rfl,rfl,rfl,rfl,rfl,rfl,trivial⟩
  clear hMI
  rintro z f w ⟨i,hi2,hiT,rfl,hMI,hf⟩
  have ob:=hf.chain
  obtain⟨g,rfl⟩:=ob
  by_cases hlt:i<x.T.length
  ·by_cases h200:i<200
   ·have ob:∃t,x.T[i]?=some t:=⟨_,getElem?_eq_getElem hlt⟩
    obtain⟨t,ht⟩:=ob
    have ob:=hx.T t (mem_of_getElem? ht)
    obtain⟨hIt,hIr,hIp⟩:=ob
    have ob:=sl_at1 (c:=fun t:Value×List It=>t.1) hsT ht
    obtain⟨tb,to,tc,hte,htc⟩:=ob
    cases hte
    have hXc:=fun{w:World} h=>xcell (x:=x) (w:=w) (b3:=b3) h hT1
    refine cq<|sr<|wm<|wF 1 u28 rfl ty22 rfl<|wl ty22 rfl (hXc (hMI.get hXm))<|wL u22 rfl<|lT<|wm<|wy<|wm<|wy<|lT<|pT<|wZ ?_
    refine CW.cond rfl (fun h=>?_) (fun h=>?_)
    ·refine ck<|cq<|cB<|sr<|wm<|wF 1 u28 rfl ty22 rfl<|wl ty22 rfl (hXc (hMI.get hXm))<|wm<|wI u22 ty65 rfl rfl<|wl ty65 rfl (keep1 (S:=[]) htc hMI.base)<|wE rfl (run_call en59 rfl rfl) (build_spec hk1 hk _ (hIt.step0 hMI.base) hIp hIr) ?_
     rintro e w ⟨d,vB,LB,B,D1,er,rfl,hd32,hB,hBo,hBl,hq⟩
     refine⟨_,rfl,?_⟩
     replace hMI:=MI.add hMI hq
     obtain⟨s,roots,vR,LR,L,R,D,hM,few,hsk,hrl⟩:=hMI
     have hs:=hM.hs
     have hdl:(u8s d).length=32:=by rw[u8s,length_map,hd32]
     refine wm<|wx rfl rfl<|wx rfl rfl<|wx rfl rfl<|WL.alloc ty44 rfl hs (fun b12 w hs=>?_)
     refine WL.storeAll ty44 rfl rfl ((hdl)) ((Cells1.u8s _)) hs (by rfl) (fun w hs=>?_)
     refine wA<|wA<|wZ ?_
     have hM1:MX b53 bp br ((LB++D1)++[(b3,blk 28 x.cells)]) w0 s roots vR LR L R D w:=⟨hM.pr,hM.rr,hM.ok,hM.small,hM.vr,hM.r32,hs.tail⟩
     have ob:=hB.form
     obtain⟨vBa,vBc,rfl⟩:=ob
     by_cases her:er≠0
     ·refine cq<|sr<|wm<|wV (run_bT (run_neq rfl rfl) (by exact her))<|wZ<|CW.cond rfl (fun h=>?_) (fun h=>?_)
      ·refine CW.exit<|cr<|wm<|wP ((i+1:Nat):Int)<|wA<|wZ<|(show _∧_ from⟨rfl,_,?_,i+1,h200,hlt,rfl,⟨s,roots,vR,LR,L,R,D,hM1.drop,few.mono (by omega),hsk,by omega⟩,rfl,rfl,rfl,rfl,rfl,rfl,trivial⟩)
       omega
      ·cases h
     refine cq<|sr<|wm<|wV (run_bF (run_neq rfl rfl) (by exact her))<|wZ<|CW.cond rfl (fun h=>?_) (fun h=>?_)
     ·cases h
     replace hs:=Step.s1 hs
     have hvr:=hM.vr
     have ob:=hvr.form
     obtain⟨ra,rc,rfl⟩:=ob
     refine ck<|cq<|CW.any (A:=fun w=>Step [] [(b12,blk 44 (u8s d))] w0 w) (C:=fun w=>Step [] [(b12,blk 44 (u8s d)),(b53,blk 42 (w8C bp br (.slice ra roots.length rc)))] w0 w) 10 11 mixedP rfl ?_
     replace hs:=hs.drew
     refine aM 0 rfl<|aM 1 rfl<|aN 2 rfl rfl<|aF 3 rfl 2 u42 rfl ty35 rfl<|aL 4 rfl ty35 rfl (fun w hs=>hs.c1 rfl)<|aV 5 rfl (fun w hs=>run_loadN ty44 rfl hdl hs.a0)<|AL.one 6 (by kernel_rfl) rfl (by exact Step.dropR (L1:=[(b12,_)]) hs) (by exact Step.dropR (L1:=[_,_]) hs) ?_
     refine WL.buildSlice (cs:=u8s d) u35 ty44 rfl (by decide) rfl (filled1 hdl rfl) rfl hs (fun b84 w hs=>?_)
     have hsl84:Sl w 32 (.slice (some ⟨b84,0,none⟩) 1 1) 1 (u8s d):=.own1 hs (by rw[hdl])
     replace hs:=Step.in3 hs
     refine wZ<|⟨rfl,?_⟩
     refine AL.one 7 (by kernel_rfl) rfl (by exact Step.dropR (L1:=[(b12,_)]) (hs.dropL (L1:=LR)).tail) (by exact Step.dropR (L1:=[_,_]) (hs.dropL (L1:=LR)).tail) ?_
     refine WL.append u35 u35 ty44 rfl (by decide) rfl rfl (hvr) (hs) (hsl84) (Cells1.u8s _) (by omega) rfl (fun v85 Lv85 w hv85 hs=>?_)
     replace hs:=Step.out3 hs
     refine wZ<|⟨rfl,?_⟩
     refine AL.valA 8 rfl (by kernel_rfl) rfl (fun w hs=>run_nilCheck rfl) ?_
     refine aF 9 rfl 2 u42 rfl ty35 rfl<|AL.one 10 (by kernel_rfl) rfl (by exact Step.dropR (L1:=[(b12,_)]) hs) (by exact Step.dropR (L1:=[_,_]) hs) ?_
     refine ws1 ty35 rfl rfl (hv85.one) (hs.swap) (fun w hs=>?_)
     refine wZ<|⟨rfl,?_⟩
     refine AL.relax (by kernel_rfl) ?_
     refine AL.end (by kernel_rfl) (by exact Step.dropR (L1:=[(b12,_)]) hs.tail) (trivial) ?_
     replace hs:Step [] ((b12,blk 44 (u8s d))::(b53,blk 42 (w8C bp br v85))::(Lv85++(((LB++D1)++[(b3,blk 28 x.cells)])++(L++(R++D))))) w0 w:=hs.swap
     have hM3:MX b53 bp br ((LB++D1)++[(b3,blk 28 x.cells)]) w0 s (roots++[d]) v85 Lv85 L R D w:=⟨hM.pr,hM.rr,hM.ok,hM.small,by rw[length_append,digsL_snoc];exact hv85,fun e he=>(mem_append.1 he).elim (hM.r32 e) fun he=>by obtain rfl:=mem_singleton.1 he;exact hd32,Step.s2 hs⟩
     have hMI:MI b53 bp br k ((LB++D1)++[(b3,blk 28 x.cells)]) w0 (i*200000+0) (i+1) w:=⟨s,_,_,_,L,R,D,hM3,few.mono (by omega),hsk,by rw[length_append,length_singleton];omega⟩
     clear hs
     refine sr<|wA<|wZ<|cB<|CW.loop (fun z f w'=>∃q,q≤B.length∧z=B.length - q∧MI b53 bp br k ((LB++D1)++[(b3,blk 28 x.cells)]) w0 (i*200000+q) (i+1) w'∧Holds f [(0,.int .i64 (k:Nat)),(3,pt b3),(6,pt bp),(8,pt br),(10,pt b53),(11,.int .i64 (i:Nat)),(13,.slice vBa B.length vBc),(15,.int .i64 (q:Nat))]) (m:=B.length) ?_ ?_
     ·exact⟨0,Nat.zero_le _,rfl,hMI,rfl,rfl,rfl,rfl,rfl,rfl,rfl,rfl,trivial⟩
     clear hMI
     rintro z f w ⟨q,hq,rfl,hMI,hf⟩
     have ob:=hf.chain
     obtain⟨g,rfl⟩:=ob
     by_cases hql:q<B.length
     ·have ob:∃u,B[q]?=some u:=⟨_,getElem?_eq_getElem hql⟩
      obtain⟨u,hu⟩:=ob
      have huo:=hBo u (mem_of_getElem? hu)
      have ob:=At.ownSl hB (w:=w) (fun p hp=>hMI.get (by simp[hp])) (by omega)
      obtain⟨ub,uc,hue,hua⟩:=ob
      cases hue
      refine cq<|sr<|wm<|wm<|wL u24 rfl<|lT<|wZ<|CW.cond rfl (fun h=>?_) (fun h=>?_)
      ·refine ck<|cq<|cB<|sr<|wm<|wm<|wm<|wI u24 ty76 rfl rfl<|wl ty76 rfl (cellsB_at hua hu)<|wE rfl (run_call en60 rfl rfl) (MI.put hMI (by omega) (.inr (huo.1.mono fun p hp=>by simp[hp])) huo.1.room (by omega)) ?_
       rintro e w ⟨rfl,hMI2⟩
       refine⟨_,rfl,?_⟩
       refine wN rfl<|wZ<|CW.cond rfl (fun h=>?_) (fun h=>?_)
       ·cases h
       refine ck<|cr<|wm<|wP ((q+1:Nat):Int)<|wA<|wZ<|(show _∧_ from⟨rfl,_,?_,q+1,hql,rfl,hMI2.mono (by omega) (Nat.le_refl _),rfl,rfl,rfl,rfl,rfl,rfl,rfl,rfl,trivial⟩)
       omega
      ·cases h
     ·refine cq<|sr<|wm<|wm<|wL u24 rfl<|lF<|wZ<|CW.cond rfl (fun h=>?_) (fun h=>?_)
      ·cases h
      refine CW.exit<|cr<|wm<|wP ((i+1:Nat):Int)<|wA<|wZ<|(show _∧_ from⟨rfl,_,?_,i+1,h200,hlt,rfl,(MI.drop hMI).mono (by omega) (Nat.le_refl _),rfl,rfl,rfl,rfl,rfl,rfl,trivial⟩)
      omega
    ·cases h
   ·have hXc:=fun{w:World} h=>xcell (x:=x) (w:=w) (b3:=b3) h hT1
    refine cq<|sr<|wm<|wF 1 u28 rfl ty22 rfl<|wl ty22 rfl (hXc (hMI.get hXm))<|wL u22 rfl<|lT<|wm<|wy<|wm<|wy<|lF<|pT<|wZ ?_
    refine CW.cond rfl (fun h=>?_) (fun h=>?_)
    ·cases h
    refine CW.exit ?_
    exact⟨rfl,hMI.mono (by omega) hi2,rfl,rfl,rfl,rfl,rfl,trivial⟩
  ·have hXc:=fun{w:World} h=>xcell (x:=x) (w:=w) (b3:=b3) h hT1
   refine cq<|sr<|wm<|wF 1 u28 rfl ty22 rfl<|wl ty22 rfl (hXc (hMI.get hXm))<|wL u22 rfl<|lF<|wm<|wz<|wz<|pF<|wZ<|CW.cond rfl (fun h=>?_) (fun h=>?_)
   ·cases h
   refine CW.exit ?_
   exact⟨rfl,hMI.mono (by omega) hi2,rfl,rfl,rfl,rfl,rfl,trivial⟩
 clear hMI
 rintro f w ⟨hMI,hf⟩
 replace hMI:MI b53 bp br k [(b3,blk 28 x.cells)] w0 (40000000+0) (200+0) w:=hMI.mono (by omega) (by omega)
 have ob:=hf.chain
 obtain⟨g,rfl⟩:=ob
 refine CW.seqM (fun f w=>MI b53 bp br k [(b3,blk 28 x.cells)] w0 40000200 400 w∧Holds f [(0,.int .i64 (k:Nat)),(3,pt b3),(6,pt bp),(8,pt br),(10,pt b53)]) ?_ ?_
 ·refine sr<|wA<|wZ<|cB<|CW.loop (fun z f w'=>∃i,i≤200∧i≤x.N.length∧z=200 - i∧MI b53 bp br k [(b3,blk 28 x.cells)] w0 (40000000+i) (200+i) w'∧Holds f [(0,.int .i64 (k:Nat)),(3,pt b3),(6,pt bp),(8,pt br),(10,pt b53),(16,.int .i64 (i:Nat))]) (m:=200) ?_ ?_
  ·exact⟨0,by omega,Nat.zero_le _,rfl,hMI,rfl,rfl,rfl,rfl,rfl,rfl,trivial⟩
  clear hMI
  rintro z f w ⟨i,hi2,hiT,rfl,hMI,hf⟩
  have ob:=hf.chain
  obtain⟨g,rfl⟩:=ob
  have hXc:=fun{w:World} h=>xcell (x:=x) (w:=w) (b3:=b3) h hN2
  by_cases hlt:i<x.N.length
  ·by_cases h200:i<200
   ·have ob:∃t,x.N[i]?=some t:=⟨_,getElem?_eq_getElem hlt⟩
    obtain⟨t,ht⟩:=ob
    have ob:=hx.N t (mem_of_getElem? ht)
    obtain⟨hEs,hEr⟩:=ob
    have ob:=sl_at1 (c:=fun t:Value×List Ent=>t.1) hsN ht
    obtain⟨tb,to,tc,hte,htc⟩:=ob
    cases hte
    refine cq<|sr<|wm<|wF 2 u28 rfl ty23 rfl<|wl ty23 rfl (hXc (hMI.get hXm))<|wL u23 rfl<|lT<|wm<|wy<|wm<|wy<|lT<|pT<|wZ ?_
    refine CW.cond rfl (fun h=>?_) (fun h=>?_)
    ·refine ck<|cq<|cB<|sr<|wF 2 u28 rfl ty23 rfl<|wl ty23 rfl (hXc (hMI.get hXm))<|wm<|wI u23 ty116 rfl rfl<|wl ty116 rfl (keep1 (S:=[]) htc hMI.base)<|wE rfl (run_call en57 rfl rfl) (encS_spec _ (hEs.step0 hMI.base) hEr) ?_
     rintro e w ⟨v17,y,L17,er,rfl,_,_,hv17,hyl,hq⟩
     refine⟨_,rfl,?_⟩
     replace hMI:=MI.add hMI hq
     refine wm<|wx rfl rfl<|wx rfl rfl<|wA<|wA<|wZ ?_
     have ob:=hv17.form
     obtain⟨ya,yc,rfl⟩:=ob
     by_cases her:er≠0
     ·refine cq<|sr<|wm<|wV (run_bT (run_neq rfl rfl) (by exact her))<|wZ<|CW.cond rfl (fun h=>?_) (fun h=>?_)
      ·refine CW.exit<|cr<|wm<|wP ((i+1:Nat):Int)<|wA<|wZ<|(show _∧_ from⟨rfl,_,?_,i+1,h200,hlt,rfl,(MI.drop hMI).mono (by omega) (by omega),rfl,rfl,rfl,rfl,rfl,rfl,trivial⟩)
       omega
      ·cases h
     refine cq<|sr<|wm<|wV (run_bF (run_neq rfl rfl) (by exact her))<|wZ<|CW.cond rfl (fun h=>?_) (fun h=>?_)
     ·cases h
     obtain⟨s,roots,vR,LR,L,R,D,hM,few,hsk,hrl⟩:=hMI
     have hHy:Held (L17++[(b3,blk 28 x.cells)]) (.slice ya y.length yc) y:=⟨L17,hv17,fun p hp=>mem_append_left _ hp⟩
     have hs:=hM.hs
     have hvr:=hM.vr
     have ob:=hvr.form
     obtain⟨ra,rc,rfl⟩:=ob
     have hfr:=frontL_len (x:=y) hk
     have hof:=fun{w:World}{X:OL} (h:Step [] X w0 w) (hX:∀p∈L17++[(b3,blk 28 x.cells)],p∈X)=>ofR_spec (y:=y) (v:=.slice ya y.length yc) w (hHy.sl fun p hp=>h.has p (hX p hp)) (by omega) hk1 hk
     have ob:∃d,frontL y k=d:=⟨_,rfl⟩
     obtain⟨d,hdg⟩:=ob
     rw[hdg] at hfr
     simp only[hdg] at hof
     have hdl:(u8s d).length=32:=by rw[u8s,length_map,hfr]
     replace hs:Step [] ((b53,blk 42 (w8C bp br (.slice ra roots.length rc)))::(LR++((L17++[(b3,blk 28 x.cells)])++(L++(R++D))))) w0 w:=Step.s4 hs
     refine ck<|cq<|CW.any (A:=fun w=>True) (C:=fun w=>Step [] [(b53,blk 42 (w8C bp br (.slice ra roots.length rc)))] w0 w) 12 13 mixedP rfl ?_
     replace hs:=hs.drew
     refine aM 0 rfl<|aM 1 rfl<|aN 2 rfl rfl<|aF 3 rfl 2 u42 rfl ty35 rfl<|aL 4 rfl ty35 rfl (fun w hs=>hs.c0 rfl)<|aM 5 rfl<|aM 6 rfl<|AL.one 7 (by kernel_rfl) rfl (trivial) (by exact Step.dropR (L1:=[_]) hs) ?_
     refine wE rfl (run_call en61 rfl rfl) (hof hs (fun p hp=>mem_y hp)) ?_
     rintro e w ⟨rfl,hq⟩
     refine⟨_,rfl,?_⟩
     replace hs:=hs.callE hq
     refine wZ<|⟨rfl,?_⟩
     refine AL.one 8 (by kernel_rfl) rfl (trivial) (by exact Step.dropR (L1:=[_]) hs) ?_
     refine WL.buildSlice (cs:=u8s d) u35 ty44 rfl (by decide) rfl (filled1 hdl rfl) rfl hs (fun b131 w hs=>?_)
     have hsl131:Sl w 32 (.slice (some ⟨b131,0,none⟩) 1 1) 1 (u8s d):=.own1 hs (by rw[hdl])
     replace hs:=Step.in2 hs
     refine wZ<|⟨rfl,?_⟩
     refine AL.one 9 (by kernel_rfl) rfl (trivial) (by exact Step.dropR (L1:=[_]) (hs.dropL (L1:=LR)).tail) ?_
     refine WL.append u35 u35 ty44 rfl (by decide) rfl rfl (hvr) (hs) (hsl131) (Cells1.u8s _) (by omega) rfl (fun v132 Lv132 w hv132 hs=>?_)
     replace hs:=Step.out2b hs
     refine wZ<|⟨rfl,?_⟩
     refine AL.valA 10 rfl (by kernel_rfl) rfl (fun w hs=>run_nilCheck rfl) ?_
     refine aF 11 rfl 2 u42 rfl ty35 rfl<|AL.one 12 (by kernel_rfl) rfl (trivial) (by exact Step.dropR (L1:=[_]) hs) ?_
     refine ws1 ty35 rfl rfl (hv132.one) hs (fun w hs=>?_)
     refine wZ<|⟨rfl,?_⟩
     refine AL.relax (by kernel_rfl) ?_
     refine AL.end (by kernel_rfl) (trivial) (trivial) ?_
     replace hs:Step [] ((b53,blk 42 (w8C bp br v132))::(Lv132++((L17++[(b3,blk 28 x.cells)])++(L++(R++D))))) w0 w:=hs
     have hM3:MX b53 bp br (L17++[(b3,blk 28 x.cells)]) w0 s (roots++[d]) v132 Lv132 L R D w:=⟨hM.pr,hM.rr,hM.ok,hM.small,by rw[length_append,digsL_snoc];exact hv132,fun e he=>(mem_append.1 he).elim (hM.r32 e) fun he=>by obtain rfl:=mem_singleton.1 he;exact hfr,Step.s5 hs⟩
     have hMI:MI b53 bp br k (L17++[(b3,blk 28 x.cells)]) w0 (40000000+i) (200+(i+1)) w:=⟨s,_,_,_,L,R,D,hM3,few.mono (by omega),hsk,by rw[length_append,length_singleton];omega⟩
     clear hs
     refine sr<|wm<|wm<|wE rfl (run_call en60 rfl rfl) (MI.put hMI (by omega) (.inr hHy) hHy.room (by omega)) ?_
     rintro e w ⟨rfl,hMI2⟩
     refine⟨_,rfl,?_⟩
     refine wN rfl<|wZ<|CW.cond rfl (fun h=>?_) (fun h=>?_)
     ·cases h
     refine ck<|cr<|wm<|wP ((i+1:Nat):Int)<|wA<|wZ<|(show _∧_ from⟨rfl,_,?_,i+1,h200,hlt,rfl,(MI.drop hMI2).mono (by omega) (by omega),rfl,rfl,rfl,rfl,rfl,rfl,trivial⟩)
     omega
    ·cases h
   ·refine cq<|sr<|wm<|wF 2 u28 rfl ty23 rfl<|wl ty23 rfl (hXc (hMI.get hXm))<|wL u23 rfl<|lT<|wm<|wy<|wm<|wy<|lF<|pT<|wZ ?_
    refine CW.cond rfl (fun h=>?_) (fun h=>?_)
    ·cases h
    refine CW.exit ?_
    exact⟨rfl,hMI.mono (by omega) (by omega),rfl,rfl,rfl,rfl,rfl,trivial⟩
  ·refine cq<|sr<|wm<|wF 2 u28 rfl ty23 rfl<|wl ty23 rfl (hXc (hMI.get hXm))<|wL u23 rfl<|lF<|wm<|wz<|wz<|pF<|wZ<|CW.cond rfl (fun h=>?_) (fun h=>?_)
   ·cases h
   refine CW.exit ?_
   exact⟨rfl,hMI.mono (by omega) (by omega),rfl,rfl,rfl,rfl,rfl,trivial⟩
 clear hMI
 rintro f w ⟨hMI,hf⟩
 replace hMI:MI b53 bp br k [(b3,blk 28 x.cells)] w0 (40000200+0) 400 w:=hMI.mono (by omega) (by omega)
 have ob:=hf.chain
 obtain⟨g,rfl⟩:=ob
 refine CW.seqM (fun f w=>MI b53 bp br k [(b3,blk 28 x.cells)] w0 40000400 400 w∧Holds f [(0,.int .i64 (k:Nat)),(3,pt b3),(6,pt bp),(8,pt br),(10,pt b53)]) ?_ ?_
 ·refine sr<|wA<|wZ<|cB<|CW.loop (fun z f w'=>∃i,i≤200∧i≤x.B.length∧z=200 - i∧MI b53 bp br k [(b3,blk 28 x.cells)] w0 (40000200+i) 400 w'∧Holds f [(0,.int .i64 (k:Nat)),(3,pt b3),(6,pt bp),(8,pt br),(10,pt b53),(19,.int .i64 (i:Nat))]) (m:=200) ?_ ?_
  ·exact⟨0,by omega,Nat.zero_le _,rfl,hMI,rfl,rfl,rfl,rfl,rfl,rfl,trivial⟩
  clear hMI
  rintro z f w ⟨i,hi2,hiT,rfl,hMI,hf⟩
  have ob:=hf.chain
  obtain⟨g,rfl⟩:=ob
  have hXc:=fun{w:World} h=>xcell (x:=x) (w:=w) (b3:=b3) h hB3
  by_cases hlt:i<x.B.length
  ·by_cases h200:i<200
   ·have ob:∃t,x.B[i]?=some t:=⟨_,getElem?_eq_getElem hlt⟩
    obtain⟨t,ht⟩:=ob
    have ob:=hx.B t (mem_of_getElem? ht)
    obtain⟨hys,hyr⟩:=ob
    have ob:=sl_at1 (c:=fun t:Value×List UInt8=>t.1) hsB ht
    obtain⟨tb,to,tc,hte,htc⟩:=ob
    cases hte
    have ob:=sl_form hys
    obtain⟨ya,yc,hyf⟩:=ob
    rw[hyf] at htc hys hyr
    refine cq<|sr<|wm<|wF 3 u28 rfl ty24 rfl<|wl ty24 rfl (hXc (hMI.get hXm))<|wL u24 rfl<|lT<|wm<|wy<|wm<|wy<|lT<|pT<|wZ ?_
    refine CW.cond rfl (fun h=>?_) (fun h=>?_)
    ·by_cases hsm:t.2.length<65536
     ·refine ck<|cq<|cB<|sr<|wF 3 u28 rfl ty24 rfl<|wl ty24 rfl (hXc (hMI.get hXm))<|wm<|wI u24 ty76 rfl rfl<|wl ty76 rfl (keep1 (S:=[]) htc hMI.base)<|wL u76 rfl<|lT<|wm<|wy<|wm ?_
      refine wy<|wF 3 u28 rfl ty24 rfl<|wy<|wl ty24 rfl (hXc (hMI.get hXm))<|wy<|wm ?_
      refine wy ?_;(first | refine WL.val rfl (run_ixSlN u24 ty76 rfl rfl (by omega)) ?_ | refine WL.val rfl (run_ixSl u24 ty76 rfl rfl (by omega)) ?_)
      refine wy<|wl ty76 rfl (keep1 (S:=[]) htc hMI.base)<|wy<|wE rfl (run_call en60 rfl rfl) (MI.put hMI (by omega) (.inl hys) hyr (by omega)) ?_
      rintro e w ⟨rfl,hMI2⟩
      refine⟨_,rfl,?_⟩
      refine wy ?_;(first | refine WL.val rfl (run_notB rfl) ?_ | refine WL.val rfl (run_not rfl) ?_)
      refine pT<|wZ<|CW.cond rfl (fun h=>?_) (fun h=>?_)
      ·cases h
      refine ck<|cr<|wm<|wP ((i+1:Nat):Int)<|wA<|wZ<|(show _∧_ from⟨rfl,_,?_,i+1,h200,hlt,rfl,hMI2.mono (by omega) (Nat.le_refl _),rfl,rfl,rfl,rfl,rfl,rfl,trivial⟩)
      omega
     ·refine ck<|cq<|cB<|sr<|wF 3 u28 rfl ty24 rfl<|wl ty24 rfl (hXc (hMI.get hXm))<|wm<|wI u24 ty76 rfl rfl<|wl ty76 rfl (keep1 (S:=[]) htc hMI.base)<|wL u76 rfl<|lF<|wm<|wz<|wz<|wz<|wz<|wz<|wz<|wz<|wz<|pF<|wZ ?_
      refine CW.cond rfl (fun h=>?_) (fun h=>?_)
      ·cases h
      refine ck<|cr<|wm<|wP ((i+1:Nat):Int)<|wA<|wZ<|(show _∧_ from⟨rfl,_,?_,i+1,h200,hlt,rfl,hMI.mono (by omega) (by omega),rfl,rfl,rfl,rfl,rfl,rfl,trivial⟩)
      omega
    ·cases h
   ·refine cq<|sr<|wm<|wF 3 u28 rfl ty24 rfl<|wl ty24 rfl (hXc (hMI.get hXm))<|wL u24 rfl<|lT<|wm<|wy<|wm<|wy<|lF<|pT<|wZ ?_
    refine CW.cond rfl (fun h=>?_) (fun h=>?_)
    ·cases h
    refine CW.exit ?_
    exact⟨rfl,hMI.mono (by omega) (by omega),rfl,rfl,rfl,rfl,rfl,trivial⟩
  ·refine cq<|sr<|wm<|wF 3 u28 rfl ty24 rfl<|wl ty24 rfl (hXc (hMI.get hXm))<|wL u24 rfl<|lF<|wm<|wz<|wz<|pF<|wZ<|CW.cond rfl (fun h=>?_) (fun h=>?_)
   ·cases h
   refine CW.exit ?_
   exact⟨rfl,hMI.mono (by omega) (by omega),rfl,rfl,rfl,rfl,rfl,trivial⟩
 clear hMI
 rintro f w ⟨hMI,hf⟩
 have ob:=hf.chain
 obtain⟨g,rfl⟩:=ob
 replace hMI:MI b53 bp br k [(b3,blk 28 x.cells)] w0 (40000400+0) 400 w:=hMI.mono (by omega) (by omega)
 refine CW.seqM (fun f w=>MI b53 bp br k [(b3,blk 28 x.cells)] w0 40000600 400 w∧Holds f [(0,.int .i64 (k:Nat)),(3,pt b3),(6,pt bp),(8,pt br),(10,pt b53)]) ?_ ?_
 ·refine sr<|wA<|wZ<|cB<|CW.loop (fun z f w'=>∃i,i≤200∧i≤x.P.length∧z=200 - i∧MI b53 bp br k [(b3,blk 28 x.cells)] w0 (40000400+i) 400 w'∧Holds f [(0,.int .i64 (k:Nat)),(3,pt b3),(6,pt bp),(8,pt br),(10,pt b53),(20,.int .i64 (i:Nat))]) (m:=200) ?_ ?_
  ·exact⟨0,by omega,Nat.zero_le _,rfl,hMI,rfl,rfl,rfl,rfl,rfl,rfl,trivial⟩
  clear hMI
  rintro z f w ⟨i,hi2,hiT,rfl,hMI,hf⟩
  have ob:=hf.chain
  obtain⟨g,rfl⟩:=ob
  have hXc:=fun{w:World} h=>xcell (x:=x) (w:=w) (b3:=b3) h hP5
  have hMI0:=hMI
  obtain⟨s,roots,vR,LR,L,R,D,hM,few,hsk,hrl⟩:=hMI0
  have ob:=hM.rr.look hM.ok.len
  obtain⟨xa,xc,hxc,hlook⟩:=ob
  have hxl:=used_len s.X
  have hxu:=hM.ok.used
  have hlk:∀{w:World},Step [] ([(b3,blk 28 x.cells)]++((b53,blk 42 (w8C bp br vR))::(LR++(L++(R++D))))) w0 w→_:=fun {w} h=>hlook (w:=w) (fun p hp=>h.has p (perm_rm hp))
  by_cases hlt:i<x.P.length
  ·by_cases h200:i<200
   ·by_cases hX0:0<s.X.length
    ·have ob:∃t,x.P[i]?=some t:=⟨_,getElem?_eq_getElem hlt⟩
     obtain⟨t,ht⟩:=ob
     have ob:=hx.P t (mem_of_getElem? ht)
     obtain⟨hz,hys,hyr⟩:=ob
     have ob:=sl_atP hsP ht
     obtain⟨tb,to,tc,hte,htc⟩:=ob
     cases hte
     have ob:=sl_form hys
     obtain⟨ya,yc,hyf⟩:=ob
     have htp:∀{X:OL}{w:World},Step [] X w0 w→At w tb (to+i*2) [.int .i64 t.1,.slice ya t.2.2.length yc]:=fun h=>by
      have h2:=htc.step h.clear (by simp)
      unfold plC at h2
      rw[hyf] at h2;exact h2
     rw[hyf] at hys hyr
     have ob:∃r,roundZ t.1 s.X.length=r:=⟨_,rfl⟩
     obtain⟨r,hre⟩:=ob
     have hrlt:=roundZ_lt (a:=t.1) hX0
     rw[hre] at hrlt
     have hrnd:=fun w=>roundL_spec (a:=t.1) (n:=s.X.length) hX0 (by omega) hz w
     simp only[hre] at hrnd
     have ob:∃b,s.X[r]?=some b:=⟨_,getElem?_eq_getElem hrlt⟩
     obtain⟨b,hb⟩:=ob
     have hbl:=hM.ok.len b (mem_of_getElem? hb)
     have hdl:(u8s b.d).length=32:=by rw[u8s,length_map,hbl]
     have ob:=(hlk hM.hs).2 r b hb
     obtain⟨bx,hbe,_⟩:=ob
     subst hbe
     have hrw:∀{w:World},Step [] ([(b3,blk 28 x.cells)]++((b53,blk 42 (w8C bp br vR))::(LR++(L++(R++D))))) w0 w→At w bx (0+r*34) (u8s b.d):=fun h=>by
      have ob:=(hlk h).2 r b hb
      obtain⟨bx',h1,h2⟩:=ob
      cases h1
      exact h2
     refine cq<|sr<|wm<|wF 5 u28 rfl ty26 rfl<|wl ty26 rfl (hXc (hMI.get hXm))<|wL u26 rfl<|lT<|wm<|wy<|wm<|wy<|lT<|pT<|wm ?_
     refine wy<|wm<|wy<|wn rfl<|wy<|wF 3 u54 rfl ty52 rfl<|wy<|wl ty52 rfl ((hlk hM.hs).1.cell (j:=3) rfl)<|wy<|wL u52 rfl<|wy<|xT<|pT<|wZ ?_
     refine CW.cond rfl (fun h=>?_) (fun h=>?_)
     ·have hs:=hM.hs
      have ok:=hM.ok
      refine ck<|cq<|cB<|cq<|CW.any (A:=fun w=>Step [] ([(b3,blk 28 x.cells)]++((b53,blk 42 (w8C bp br vR))::(LR++(L++(R++D))))) w0 w) (C:=fun w=>Step [] ([(b3,blk 28 x.cells)]++((b53,blk 42 (w8C bp br vR))::(LR++(L++(R++D))))) w0 w) 1000000 21 mixedP rfl ?_
      replace hs:=hs.drew
      refine aM 0 rfl<|aN 1 rfl rfl<|aF 2 rfl 3 u54 rfl ty52 rfl<|aL 3 rfl ty52 rfl (fun w hs=>(hlk hs).1.cell (j:=3) rfl)<|aF 4 rfl 5 u28 rfl ty26 rfl<|aL 5 rfl ty26 rfl (fun w hs=>hXc (hs.has (b3,blk 28 x.cells) (by simp)))<|aM 6 rfl<|aV 7 rfl (fun w hs=>run_ixSlN u26 ty124 rfl rfl (by omega))<|aF 8 rfl 0 u124 rfl ty3 rfl<|aL 9 rfl ty3 rfl (fun w hs=>(htp hs).cell (j:=0) rfl)<|aM 10 rfl<|aN 11 rfl rfl<|aF 12 rfl 3 u54 rfl ty52 rfl<|aL 13 rfl ty52 rfl (fun w hs=>(hlk hs).1.cell (j:=3) rfl) ?_
      refine aV 14 rfl (fun w hs=>run_lenSl u52 rfl)<|AL.two 15 19 (by kernel_rfl) rfl rfl (by exact hs) (by exact hs) ?_ ?_
      ·refine wE rfl (run_call en46 rfl rfl) (hrnd _) ?_
       rintro e w ⟨rfl,hq⟩
       refine⟨_,rfl,?_⟩
       replace hs:=hs.callE hq
       refine wZ<|⟨rfl,?_⟩
       refine aV 16 rfl (fun w hs=>run_ixSlN u52 ty80 rfl rfl (by omega))<|aF 17 rfl 0 u80 rfl ty44 rfl<|aV 18 rfl (fun w hs=>run_loadN ty44 rfl hdl (hrw hs))<|AL.one 19 (by kernel_rfl) rfl (by exact hs) (by exact hs) ?_
       refine WL.alloc ty44 rfl hs (fun b21 w hs=>?_)
       refine wZ<|⟨rfl,?_⟩
       refine AL.one 20 (by kernel_rfl) rfl (by exact hs.tail) (by exact hs.tail) ?_
       refine WL.storeAll ty44 rfl rfl (hdl) (Cells1.u8s _) hs (by rfl) (fun w hs=>?_)
       refine wZ<|⟨rfl,?_⟩
       refine AL.end (by kernel_rfl) (by exact hs.tail) (by exact hs.tail) ?_
       by_cases hsm:t.2.2.length<65536
       ·replace hs:Step [] (((b21,blk 44 (u8s b.d))::(b3,blk 28 x.cells)::(b53,blk 42 (w8C bp br vR))::LR)++(L++(R++D))) w0 w:=hs
        have hpl:=fun{w1:World} (hs:Step [] (((b21,blk 44 (u8s b.d))::(b3,blk 28 x.cells)::(b53,blk 42 (w8C bp br vR))::LR)++(L++(R++D))) w0 w1)=>plant_abs (w0:=w1) hM.pr ok few (by omega) (Two.live hs) hbl (hys.step0 hs) (OutE.new hs hys (.inr (outside_nil _)) fun p hp=>by simp[hp]) (by omega)
        have hrpl:=fun{w1:World}{D1:OL} h1 h2 h3=>rplant_abs (w0:=w1) (hM.rr.mono (D':=D1++D) mem_right) ok few (by omega) h1 hbl (y:=t.2.2) (v:=.slice ya t.2.2.length yc) h2 h3 (by omega)
        refine cq<|CW.any (A:=fun w=>Step [] [(b21,blk 44 (u8s b.d)),(b3,blk 28 x.cells)] w0 w) (C:=fun w=>Step [] [(b21,blk 44 (u8s b.d)),(b3,blk 28 x.cells)] w0 w) 1000000 29 mixedP rfl ?_
        replace hs:=hs.drew
        refine aF 0 rfl 5 u28 rfl ty26 rfl<|aL 1 rfl ty26 rfl (fun w hs=>hXc hs.tail.hd)<|aM 2 rfl<|aV 3 rfl (fun w hs=>run_ixSlN u26 ty124 rfl rfl (by omega))<|aF 4 rfl 1 u124 rfl ty76 rfl<|aL 5 rfl ty76 rfl (fun w hs=>(htp hs).cell (j:=1) rfl)<|aV 6 rfl (fun w hs=>run_lenSl u76 rfl)<|aV 7 rfl (fun w hs=>run_bT (run_lss rfl rfl) (by omega))<|aM 8 rfl<|AL.valY 9 rfl (by kernel_rfl) rfl rfl rfl rfl (fun w hs=>run_move) ?_
        refine AL.valY 10 rfl (by kernel_rfl) rfl rfl rfl rfl (fun w hs=>run_loadN ty44 rfl hdl hs.a0) ?_
        refine AL.valY 11 rfl (by kernel_rfl) rfl rfl rfl rfl (fun w hs=>run_field (o':=5) u28 rfl ty26 rfl rfl rfl) ?_
        refine AL.valY 12 rfl (by kernel_rfl) rfl rfl rfl rfl (fun w hs=>run_load1 ty26 rfl ((hXc hs.tail.hd))) ?_
        refine AL.valY 13 rfl (by kernel_rfl) rfl rfl rfl rfl (fun w hs=>run_move) ?_
        refine AL.valY 14 rfl (by kernel_rfl) rfl rfl rfl rfl (fun w hs=>run_ixSlN u26 ty124 rfl rfl (by omega)) ?_
        refine AL.valY 15 rfl (by kernel_rfl) rfl rfl rfl rfl (fun w hs=>run_field (o':=1) u124 rfl ty76 rfl rfl rfl) ?_
        refine AL.valY 16 rfl (by kernel_rfl) rfl rfl rfl rfl (fun w hs=>run_load1 ty76 rfl ((htp hs).cell (j:=1) rfl)) ?_
        refine AL.valY 18 rfl (by kernel_rfl) rfl rfl rfl rfl (fun w hs=>run_move) ?_
        refine AL.valY 19 rfl (by kernel_rfl) rfl rfl rfl rfl (fun w hs=>run_loadN ty44 rfl hdl hs.a0) ?_
        refine AL.valY 20 rfl (by kernel_rfl) rfl rfl rfl rfl (fun w hs=>run_field (o':=5) u28 rfl ty26 rfl rfl rfl) ?_
        refine AL.valY 21 rfl (by kernel_rfl) rfl rfl rfl rfl (fun w hs=>run_load1 ty26 rfl ((hXc hs.tail.hd))) ?_
        refine AL.valY 22 rfl (by kernel_rfl) rfl rfl rfl rfl (fun w hs=>run_move) ?_
        refine AL.valY 23 rfl (by kernel_rfl) rfl rfl rfl rfl (fun w hs=>run_ixSlN u26 ty124 rfl rfl (by omega)) ?_
        refine AL.valY 24 rfl (by kernel_rfl) rfl rfl rfl rfl (fun w hs=>run_field (o':=1) u124 rfl ty76 rfl rfl rfl) ?_
        refine AL.valY 25 rfl (by kernel_rfl) rfl rfl rfl rfl (fun w hs=>run_load1 ty76 rfl ((htp hs).cell (j:=1) rfl)) ?_
        refine AL.one 17 (by kernel_rfl) rfl (Step.dropR (L1:=[_,_]) hs) (Step.dropR (L1:=[_,_]) hs) ?_
        refine wy<|wE rfl (run_call en35 rfl rfl) (hpl hs) ?_
        rintro e w ⟨L1,D1,rfl,hP1,hq⟩
        refine⟨_,rfl,?_⟩
        replace hs:=Two.put (A:=_::_::_::LR) hs hq
        refine wZ<|⟨rfl,?_⟩
        refine AL.one 26 (by kernel_rfl) rfl (Step.dropR (L1:=[_,_]) hs) (Step.dropR (L1:=[_,_]) hs) ?_
        refine wy<|wE rfl (run_call en62 rfl rfl) (hrpl (Two.rlive (A:=_::_::_::LR) hs) (hys.step0 hs) (OutE.new hs hys (.inr (outside_nil _)) fun p hp=>by simp[hp])) ?_
        rintro e w ⟨R1,D2,rfl,hR1,hq2⟩
        refine⟨_,rfl,?_⟩
        replace hs:=Two.rput (A:=_::_::_::LR) hs hq2
        refine wZ<|⟨rfl,?_⟩
        refine AL.valY 27 rfl (by kernel_rfl) rfl rfl rfl rfl (fun w hs=>run_bF (run_neq rfl rfl) (by exact fun h=>h rfl)) ?_
        refine aV 28 rfl (fun w hs=>run_pickT rfl)<|AL.end (by kernel_rfl) (Step.dropR (L1:=[_,_]) hs) (Step.dropR (L1:=[_,_]) hs) ?_
        have hs2:=(Step.perm hs (List.Perm.refl _)).tail
        have hMI2:MI b53 bp br k [(b3,blk 28 x.cells)] w0 (40000400+(i+1)) 400 w:=⟨(s.plant b.d t.2.2).2,roots,vR,LR,L1,R1,D2++(D1++D),⟨hP1.mono mem_right,hR1,ok.plant hbl t.2.2,hM.small.plant _ _,hM.vr,hM.r32,hs2.perm (by simp[append_assoc])⟩,(few.plant b.d t.2.2).mono (by omega),by rw[plant_k'];exact hsk,hrl⟩
        refine CW.cond rfl (fun h=>?_) (fun h=>?_)
        ·cases h
        refine ck<|cr<|wm<|wP ((i+1:Nat):Int)<|wA<|wZ<|(show _∧_ from⟨rfl,_,?_,i+1,h200,hlt,rfl,hMI2,rfl,rfl,rfl,rfl,rfl,rfl,trivial⟩)
        omega
       ·have hsm2:=hsm
        refine cq<|CW.any (A:=fun w=>Step [] [(b21,blk 44 (u8s b.d)),(b3,blk 28 x.cells)] w0 w) (C:=fun w=>Step [] [(b21,blk 44 (u8s b.d)),(b3,blk 28 x.cells)] w0 w) 1000000 29 mixedP rfl ?_
        replace hs:=hs.drew
        refine aF 0 rfl 5 u28 rfl ty26 rfl<|aL 1 rfl ty26 rfl (fun w hs=>hXc hs.tail.hd)<|aM 2 rfl<|aV 3 rfl (fun w hs=>run_ixSlN u26 ty124 rfl rfl (by omega))<|aF 4 rfl 1 u124 rfl ty76 rfl<|aL 5 rfl ty76 rfl (fun w hs=>(htp hs).cell (j:=1) rfl)<|aV 6 rfl (fun w hs=>run_lenSl u76 rfl)<|aV 7 rfl (fun w hs=>run_bF (run_lss rfl rfl) (by omega))<|aM 8 rfl<|AL.valN 9 rfl (by kernel_rfl) rfl rfl rfl (.inl rfl) ?_
        refine AL.valN 10 rfl (by kernel_rfl) rfl rfl rfl (.inl rfl) ?_
        refine AL.valN 11 rfl (by kernel_rfl) rfl rfl rfl (.inl rfl) ?_
        refine AL.valN 12 rfl (by kernel_rfl) rfl rfl rfl (.inl rfl) ?_
        refine AL.valN 13 rfl (by kernel_rfl) rfl rfl rfl (.inl rfl) ?_
        refine AL.valN 14 rfl (by kernel_rfl) rfl rfl rfl (.inl rfl) ?_
        refine AL.valN 15 rfl (by kernel_rfl) rfl rfl rfl (.inl rfl) ?_
        refine AL.valN 16 rfl (by kernel_rfl) rfl rfl rfl (.inl rfl) ?_
        refine AL.valN 17 rfl (by kernel_rfl) rfl rfl rfl (.inl rfl) ?_
        refine AL.valN 18 rfl (by kernel_rfl) rfl rfl rfl (.inl rfl) ?_
        refine AL.valN 19 rfl (by kernel_rfl) rfl rfl rfl (.inl rfl) ?_
        refine AL.valN 20 rfl (by kernel_rfl) rfl rfl rfl (.inl rfl) ?_
        refine AL.valN 21 rfl (by kernel_rfl) rfl rfl rfl (.inl rfl) ?_
        refine AL.valN 22 rfl (by kernel_rfl) rfl rfl rfl (.inl rfl) ?_
        refine AL.valN 23 rfl (by kernel_rfl) rfl rfl rfl (.inl rfl) ?_
        refine AL.valN 24 rfl (by kernel_rfl) rfl rfl rfl (.inl rfl) ?_
        refine AL.valN 25 rfl (by kernel_rfl) rfl rfl rfl (.inl rfl) ?_
        refine AL.valN 26 rfl (by kernel_rfl) rfl rfl rfl (.inl rfl) ?_
        refine AL.valN 27 rfl (by kernel_rfl) rfl rfl rfl (.inl rfl) ?_
        refine aV 28 rfl (fun w hs=>run_pickF rfl)<|AL.end (by kernel_rfl) (Step.dropR (L1:=[_,_]) hs) (Step.dropR (L1:=[_,_]) hs) ?_
        have hMI2:MI b53 bp br k [(b3,blk 28 x.cells)] w0 (40000400+(i+1)) 400 _:=⟨s,roots,vR,LR,L,R,D,⟨hM.pr,hM.rr,ok,hM.small,hM.vr,hM.r32,hs.tail⟩,few.mono (by omega),hsk,hrl⟩
        refine CW.cond rfl (fun h=>?_) (fun h=>?_)
        ·cases h
        refine ck<|cr<|wm<|wP ((i+1:Nat):Int)<|wA<|wZ<|(show _∧_ from⟨rfl,_,?_,i+1,h200,hlt,rfl,hMI2,rfl,rfl,rfl,rfl,rfl,rfl,trivial⟩)
        omega
      ·refine WL.alloc ty44 rfl hs (fun b21 w hs=>?_)
       refine wZ<|⟨rfl,?_⟩
       refine AL.one 15 (by kernel_rfl) rfl (by exact hs.tail) (by exact hs.tail) ?_
       refine wE rfl (run_call en46 rfl rfl) (hrnd _) ?_
       rintro e w ⟨rfl,hq⟩
       refine⟨_,rfl,?_⟩
       replace hs:=hs.callE hq
       refine wZ<|⟨rfl,?_⟩
       refine aV 16 rfl (fun w hs=>run_ixSlN u52 ty80 rfl rfl (by omega))<|aF 17 rfl 0 u80 rfl ty44 rfl<|aV 18 rfl (fun w hs=>run_loadN ty44 rfl hdl (hrw hs))<|AL.one 20 (by kernel_rfl) rfl (by exact hs.tail) (by exact hs.tail) ?_
       refine WL.storeAll ty44 rfl rfl (hdl) (Cells1.u8s _) hs (by rfl) (fun w hs=>?_)
       refine wZ<|⟨rfl,?_⟩
       refine AL.end (by kernel_rfl) (by exact hs.tail) (by exact hs.tail) ?_
       by_cases hsm:t.2.2.length<65536
       ·replace hs:Step [] (((b21,blk 44 (u8s b.d))::(b3,blk 28 x.cells)::(b53,blk 42 (w8C bp br vR))::LR)++(L++(R++D))) w0 w:=hs
        have hpl:=fun{w1:World} (hs:Step [] (((b21,blk 44 (u8s b.d))::(b3,blk 28 x.cells)::(b53,blk 42 (w8C bp br vR))::LR)++(L++(R++D))) w0 w1)=>plant_abs (w0:=w1) hM.pr ok few (by omega) (Two.live hs) hbl (hys.step0 hs) (OutE.new hs hys (.inr (outside_nil _)) fun p hp=>by simp[hp]) (by omega)
        have hrpl:=fun{w1:World}{D1:OL} h1 h2 h3=>rplant_abs (w0:=w1) (hM.rr.mono (D':=D1++D) mem_right) ok few (by omega) h1 hbl (y:=t.2.2) (v:=.slice ya t.2.2.length yc) h2 h3 (by omega)
        refine cq<|CW.any (A:=fun w=>Step [] [(b21,blk 44 (u8s b.d)),(b3,blk 28 x.cells)] w0 w) (C:=fun w=>Step [] [(b21,blk 44 (u8s b.d)),(b3,blk 28 x.cells)] w0 w) 1000000 29 mixedP rfl ?_
        replace hs:=hs.drew
        refine aF 0 rfl 5 u28 rfl ty26 rfl<|aL 1 rfl ty26 rfl (fun w hs=>hXc hs.tail.hd)<|aM 2 rfl<|aV 3 rfl (fun w hs=>run_ixSlN u26 ty124 rfl rfl (by omega))<|aF 4 rfl 1 u124 rfl ty76 rfl<|aL 5 rfl ty76 rfl (fun w hs=>(htp hs).cell (j:=1) rfl)<|aV 6 rfl (fun w hs=>run_lenSl u76 rfl)<|aV 7 rfl (fun w hs=>run_bT (run_lss rfl rfl) (by omega))<|aM 8 rfl<|AL.valY 9 rfl (by kernel_rfl) rfl rfl rfl rfl (fun w hs=>run_move) ?_
        refine AL.valY 10 rfl (by kernel_rfl) rfl rfl rfl rfl (fun w hs=>run_loadN ty44 rfl hdl hs.a0) ?_
        refine AL.valY 11 rfl (by kernel_rfl) rfl rfl rfl rfl (fun w hs=>run_field (o':=5) u28 rfl ty26 rfl rfl rfl) ?_
        refine AL.valY 12 rfl (by kernel_rfl) rfl rfl rfl rfl (fun w hs=>run_load1 ty26 rfl ((hXc hs.tail.hd))) ?_
        refine AL.valY 13 rfl (by kernel_rfl) rfl rfl rfl rfl (fun w hs=>run_move) ?_
        refine AL.valY 14 rfl (by kernel_rfl) rfl rfl rfl rfl (fun w hs=>run_ixSlN u26 ty124 rfl rfl (by omega)) ?_
        refine AL.valY 15 rfl (by kernel_rfl) rfl rfl rfl rfl (fun w hs=>run_field (o':=1) u124 rfl ty76 rfl rfl rfl) ?_
        refine AL.valY 16 rfl (by kernel_rfl) rfl rfl rfl rfl (fun w hs=>run_load1 ty76 rfl ((htp hs).cell (j:=1) rfl)) ?_
        refine AL.valY 18 rfl (by kernel_rfl) rfl rfl rfl rfl (fun w hs=>run_move) ?_
        refine AL.valY 19 rfl (by kernel_rfl) rfl rfl rfl rfl (fun w hs=>run_loadN ty44 rfl hdl hs.a0) ?_
        refine AL.valY 20 rfl (by kernel_rfl) rfl rfl rfl rfl (fun w hs=>run_field (o':=5) u28 rfl ty26 rfl rfl rfl) ?_
        refine AL.valY 21 rfl (by kernel_rfl) rfl rfl rfl rfl (fun w hs=>run_load1 ty26 rfl ((hXc hs.tail.hd))) ?_
        refine AL.valY 22 rfl (by kernel_rfl) rfl rfl rfl rfl (fun w hs=>run_move) ?_
        refine AL.valY 23 rfl (by kernel_rfl) rfl rfl rfl rfl (fun w hs=>run_ixSlN u26 ty124 rfl rfl (by omega)) ?_
        refine AL.valY 24 rfl (by kernel_rfl) rfl rfl rfl rfl (fun w hs=>run_field (o':=1) u124 rfl ty76 rfl rfl rfl) ?_
        refine AL.valY 25 rfl (by kernel_rfl) rfl rfl rfl rfl (fun w hs=>run_load1 ty76 rfl ((htp hs).cell (j:=1) rfl)) ?_
        refine AL.one 17 (by kernel_rfl) rfl (Step.dropR (L1:=[_,_]) hs) (Step.dropR (L1:=[_,_]) hs) ?_
        refine wy<|wE rfl (run_call en35 rfl rfl) (hpl hs) ?_
        rintro e w ⟨L1,D1,rfl,hP1,hq⟩
        refine⟨_,rfl,?_⟩
        replace hs:=Two.put (A:=_::_::_::LR) hs hq
        refine wZ<|⟨rfl,?_⟩
        refine AL.one 26 (by kernel_rfl) rfl (Step.dropR (L1:=[_,_]) hs) (Step.dropR (L1:=[_,_]) hs) ?_
        refine wy<|wE rfl (run_call en62 rfl rfl) (hrpl (Two.rlive (A:=_::_::_::LR) hs) (hys.step0 hs) (OutE.new hs hys (.inr (outside_nil _)) fun p hp=>by simp[hp])) ?_
        rintro e w ⟨R1,D2,rfl,hR1,hq2⟩
        refine⟨_,rfl,?_⟩
        replace hs:=Two.rput (A:=_::_::_::LR) hs hq2
        refine wZ<|⟨rfl,?_⟩
        refine AL.valY 27 rfl (by kernel_rfl) rfl rfl rfl rfl (fun w hs=>run_bF (run_neq rfl rfl) (by exact fun h=>h rfl)) ?_
        refine aV 28 rfl (fun w hs=>run_pickT rfl)<|AL.end (by kernel_rfl) (Step.dropR (L1:=[_,_]) hs) (Step.dropR (L1:=[_,_]) hs) ?_
        have hs2:=(Step.perm hs (List.Perm.refl _)).tail
        have hMI2:MI b53 bp br k [(b3,blk 28 x.cells)] w0 (40000400+(i+1)) 400 w:=⟨(s.plant b.d t.2.2).2,roots,vR,LR,L1,R1,D2++(D1++D),⟨hP1.mono mem_right,hR1,ok.plant hbl t.2.2,hM.small.plant _ _,hM.vr,hM.r32,hs2.perm (by simp[append_assoc])⟩,(few.plant b.d t.2.2).mono (by omega),by rw[plant_k'];exact hsk,hrl⟩
        refine CW.cond rfl (fun h=>?_) (fun h=>?_)
        ·cases h
        refine ck<|cr<|wm<|wP ((i+1:Nat):Int)<|wA<|wZ<|(show _∧_ from⟨rfl,_,?_,i+1,h200,hlt,rfl,hMI2,rfl,rfl,rfl,rfl,rfl,rfl,trivial⟩)
        omega
       ·have hsm2:=hsm
        refine cq<|CW.any (A:=fun w=>Step [] [(b21,blk 44 (u8s b.d)),(b3,blk 28 x.cells)] w0 w) (C:=fun w=>Step [] [(b21,blk 44 (u8s b.d)),(b3,blk 28 x.cells)] w0 w) 1000000 29 mixedP rfl ?_
        replace hs:=hs.drew
        refine aF 0 rfl 5 u28 rfl ty26 rfl<|aL 1 rfl ty26 rfl (fun w hs=>hXc hs.tail.hd)<|aM 2 rfl<|aV 3 rfl (fun w hs=>run_ixSlN u26 ty124 rfl rfl (by omega))<|aF 4 rfl 1 u124 rfl ty76 rfl<|aL 5 rfl ty76 rfl (fun w hs=>(htp hs).cell (j:=1) rfl)<|aV 6 rfl (fun w hs=>run_lenSl u76 rfl)<|aV 7 rfl (fun w hs=>run_bF (run_lss rfl rfl) (by omega))<|aM 8 rfl<|AL.valN 9 rfl (by kernel_rfl) rfl rfl rfl (.inl rfl) ?_
        refine AL.valN 10 rfl (by kernel_rfl) rfl rfl rfl (.inl rfl) ?_
        refine AL.valN 11 rfl (by kernel_rfl) rfl rfl rfl (.inl rfl) ?_
        refine AL.valN 12 rfl (by kernel_rfl) rfl rfl rfl (.inl rfl) ?_
        refine AL.valN 13 rfl (by kernel_rfl) rfl rfl rfl (.inl rfl) ?_
        refine AL.valN 14 rfl (by kernel_rfl) rfl rfl rfl (.inl rfl) ?_
        refine AL.valN 15 rfl (by kernel_rfl) rfl rfl rfl (.inl rfl) ?_
        refine AL.valN 16 rfl (by kernel_rfl) rfl rfl rfl (.inl rfl) ?_
        refine AL.valN 17 rfl (by kernel_rfl) rfl rfl rfl (.inl rfl) ?_
        refine AL.valN 18 rfl (by kernel_rfl) rfl rfl rfl (.inl rfl) ?_
        refine AL.valN 19 rfl (by kernel_rfl) rfl rfl rfl (.inl rfl) ?_
        refine AL.valN 20 rfl (by kernel_rfl) rfl rfl rfl (.inl rfl) ?_
        refine AL.valN 21 rfl (by kernel_rfl) rfl rfl rfl (.inl rfl) ?_
        refine AL.valN 22 rfl (by kernel_rfl) rfl rfl rfl (.inl rfl) ?_
        refine AL.valN 23 rfl (by kernel_rfl) rfl rfl rfl (.inl rfl) ?_
        refine AL.valN 24 rfl (by kernel_rfl) rfl rfl rfl (.inl rfl) ?_
        refine AL.valN 25 rfl (by kernel_rfl) rfl rfl rfl (.inl rfl) ?_
        refine AL.valN 26 rfl (by kernel_rfl) rfl rfl rfl (.inl rfl) ?_
        refine AL.valN 27 rfl (by kernel_rfl) rfl rfl rfl (.inl rfl) ?_
        refine aV 28 rfl (fun w hs=>run_pickF rfl)<|AL.end (by kernel_rfl) (Step.dropR (L1:=[_,_]) hs) (Step.dropR (L1:=[_,_]) hs) ?_
        have hMI2:MI b53 bp br k [(b3,blk 28 x.cells)] w0 (40000400+(i+1)) 400 _:=⟨s,roots,vR,LR,L,R,D,⟨hM.pr,hM.rr,ok,hM.small,hM.vr,hM.r32,hs.tail⟩,few.mono (by omega),hsk,hrl⟩
        refine CW.cond rfl (fun h=>?_) (fun h=>?_)
        ·cases h
        refine ck<|cr<|wm<|wP ((i+1:Nat):Int)<|wA<|wZ<|(show _∧_ from⟨rfl,_,?_,i+1,h200,hlt,rfl,hMI2,rfl,rfl,rfl,rfl,rfl,rfl,trivial⟩)
        omega
     ·cases h
    ·refine cq<|sr<|wm<|wF 5 u28 rfl ty26 rfl<|wl ty26 rfl (hXc (hMI.get hXm))<|wL u26 rfl<|lT<|wm<|wy<|wm<|wy<|lT<|pT<|wm ?_
     refine wy<|wm<|wy<|wn rfl<|wy<|wF 3 u54 rfl ty52 rfl<|wy<|wl ty52 rfl ((hlk hM.hs).1.cell (j:=3) rfl)<|wy<|wL u52 rfl<|wy<|xF<|pT<|wZ ?_
     refine CW.cond rfl (fun h=>?_) (fun h=>?_)
     ·cases h
     refine CW.exit ?_
     exact⟨rfl,hMI.mono (by omega) (by omega),rfl,rfl,rfl,rfl,rfl,trivial⟩
   ·refine cq<|sr<|wm<|wF 5 u28 rfl ty26 rfl<|wl ty26 rfl (hXc (hMI.get hXm))<|wL u26 rfl<|lT<|wm<|wy<|wm<|wy<|lF<|pT<|wm<|wz<|wz<|wz<|wz<|wz<|wz<|pF<|wZ ?_
    refine CW.cond rfl (fun h=>?_) (fun h=>?_)
    ·cases h
    refine CW.exit ?_
    exact⟨rfl,hMI.mono (by omega) (by omega),rfl,rfl,rfl,rfl,rfl,trivial⟩
  ·refine cq<|sr<|wm<|wF 5 u28 rfl ty26 rfl<|wl ty26 rfl (hXc (hMI.get hXm))<|wL u26 rfl<|lF<|wm<|wz<|wz<|pF<|wm<|wz<|wz<|wz<|wz<|wz<|wz<|pF<|wZ ?_
   refine CW.cond rfl (fun h=>?_) (fun h=>?_)
   ·cases h
   refine CW.exit ?_
   exact⟨rfl,hMI.mono (by omega) (by omega),rfl,rfl,rfl,rfl,rfl,trivial⟩
 clear hMI
 rintro f w ⟨hMI,hf⟩
 have ob:=hf.chain
 obtain⟨g,rfl⟩:=ob
 refine CW.seqM (fun f w=>MI b53 bp br k [(b3,blk 28 x.cells)] w0 40000600 400 w∧Holds f [(0,.int .i64 (k:Nat)),(3,pt b3),(6,pt bp),(8,pt br),(10,pt b53)]) ?_ ?_
 ·refine sr<|wA<|wZ<|cB<|CW.loop (fun z f w'=>∃i,i≤200∧i≤x.E.length∧z=200 - i∧MI b53 bp br k [(b3,blk 28 x.cells)] w0 40000600 400 w'∧Holds f [(0,.int .i64 (k:Nat)),(3,pt b3),(6,pt bp),(8,pt br),(10,pt b53),(22,.int .i64 (i:Nat))]) (m:=200) ?_ ?_
  ·exact⟨0,by omega,Nat.zero_le _,rfl,hMI,rfl,rfl,rfl,rfl,rfl,rfl,trivial⟩
  clear hMI
  rintro z f w ⟨i,hi2,hiT,rfl,hMI,hf⟩
  have ob:=hf.chain
  obtain⟨g,rfl⟩:=ob
  have hXc:=fun{w:World} h=>xcell (x:=x) (w:=w) (b3:=b3) h hE4
  have hMI0:=hMI
  obtain⟨s,roots,vR,LR,L,R,D,hM,few,hsk,hrl⟩:=hMI0
  have ob:=hM.rr.look hM.ok.len
  obtain⟨xa,xc,hxc,hlook⟩:=ob
  have hxl:=used_len s.X
  have hxu:=hM.ok.used
  have hlk:∀{w:World},Step [] ([(b3,blk 28 x.cells)]++((b53,blk 42 (w8C bp br vR))::(LR++(L++(R++D))))) w0 w→_:=fun {w} h=>hlook (w:=w) (fun p hp=>h.has p (perm_rm hp))
  by_cases hlt:i<x.E.length
  ·by_cases h200:i<200
   ·by_cases hX0:0<s.X.length
    ·have ob:∃t,x.E[i]?=some t:=⟨_,getElem?_eq_getElem hlt⟩
     obtain⟨t,ht⟩:=ob
     have hz:=hx.E t (mem_of_getElem? ht)
     have ob:=sl_at1 (c:=fun z:Int=>Value.int .i64 z) hsE ht
     obtain⟨tb,to,tc,hte,htc⟩:=ob
     cases hte
     have ob:∃r,roundZ t s.X.length=r:=⟨_,rfl⟩
     obtain⟨r,hre⟩:=ob
     have hrlt:=roundZ_lt (a:=t) hX0
     rw[hre] at hrlt
     have hrnd:=fun w=>roundL_spec (a:=t) (n:=s.X.length) hX0 (by omega) hz w
     simp only[hre] at hrnd
     have ob:∃b,s.X[r]?=some b:=⟨_,getElem?_eq_getElem hrlt⟩
     obtain⟨b,hb⟩:=ob
     have hbl:=hM.ok.len b (mem_of_getElem? hb)
     have hdl:(u8s b.d).length=32:=by rw[u8s,length_map,hbl]
     have ob:=(hlk hM.hs).2 r b hb
     obtain⟨bx,hbe,_⟩:=ob
     subst hbe
     have hrw:∀{w:World},Step [] ([(b3,blk 28 x.cells)]++((b53,blk 42 (w8C bp br vR))::(LR++(L++(R++D))))) w0 w→At w bx (0+r*34) (u8s b.d):=fun h=>by
      have ob:=(hlk h).2 r b hb
      obtain⟨bx',h1,h2⟩:=ob
      cases h1
      exact h2
     refine cq<|sr<|wm<|wF 4 u28 rfl ty25 rfl<|wl ty25 rfl (hXc (hMI.get hXm))<|wL u25 rfl<|lT<|wm<|wy<|wm<|wy<|lT<|pT<|wm ?_
     refine wy<|wm<|wy<|wn rfl<|wy<|wF 3 u54 rfl ty52 rfl<|wy<|wl ty52 rfl ((hlk hM.hs).1.cell (j:=3) rfl)<|wy<|wL u52 rfl<|wy<|xT<|pT<|wZ ?_
     refine CW.cond rfl (fun h=>?_) (fun h=>?_)
     ·have hs:=hM.hs
      have ok:=hM.ok
      refine ck<|cq<|cB<|cq<|CW.any (A:=fun w=>Step [] ([(b3,blk 28 x.cells)]++((b53,blk 42 (w8C bp br vR))::(LR++(L++(R++D))))) w0 w) (C:=fun w=>Step [] ([(b3,blk 28 x.cells)]++((b53,blk 42 (w8C bp br vR))::(LR++(L++(R++D))))) w0 w) 1000000 20 mixedP rfl ?_
      replace hs:=hs.drew
      refine aM 0 rfl<|aN 1 rfl rfl<|aF 2 rfl 3 u54 rfl ty52 rfl<|aL 3 rfl ty52 rfl (fun w hs=>(hlk hs).1.cell (j:=3) rfl)<|aF 4 rfl 4 u28 rfl ty25 rfl<|aL 5 rfl ty25 rfl (fun w hs=>hXc (hs.has (b3,blk 28 x.cells) (by simp)))<|aM 6 rfl<|aV 7 rfl (fun w hs=>run_ixSlN u25 ty3 rfl rfl (by omega))<|aL 8 rfl ty3 rfl (fun w hs=>keep1 (S:=[]) htc hs.clear)<|aM 9 rfl<|aN 10 rfl rfl<|aF 11 rfl 3 u54 rfl ty52 rfl<|aL 12 rfl ty52 rfl (fun w hs=>(hlk hs).1.cell (j:=3) rfl)<|aV 13 rfl (fun w hs=>run_lenSl u52 rfl) ?_
      refine AL.two 14 18 (by kernel_rfl) rfl rfl (by exact hs) (by exact hs) ?_ ?_
      ·refine wE rfl (run_call en46 rfl rfl) (hrnd _) ?_
       rintro e w ⟨rfl,hq⟩
       refine⟨_,rfl,?_⟩
       replace hs:=hs.callE hq
       refine wZ<|⟨rfl,?_⟩
       refine aV 15 rfl (fun w hs=>run_ixSlN u52 ty80 rfl rfl (by omega))<|aF 16 rfl 0 u80 rfl ty44 rfl<|aV 17 rfl (fun w hs=>run_loadN ty44 rfl hdl (hrw hs))<|AL.one 18 (by kernel_rfl) rfl (by exact hs) (by exact hs) ?_
       refine WL.alloc ty44 rfl hs (fun b23 w hs=>?_)
       refine wZ<|⟨rfl,?_⟩
       refine AL.one 19 (by kernel_rfl) rfl (by exact hs.tail) (by exact hs.tail) ?_
       refine WL.storeAll ty44 rfl rfl (hdl) (Cells1.u8s _) hs (by rfl) (fun w hs=>?_)
       refine wZ<|⟨rfl,?_⟩
       refine AL.end (by kernel_rfl) (by exact hs.tail) (by exact hs.tail) ?_
       replace hs:Step [] (((b23,blk 44 (u8s b.d))::(b3,blk 28 x.cells)::(b53,blk 42 (w8C bp br vR))::LR)++(L++(R++D))) w0 w:=hs
       refine cq<|CW.any (A:=fun w=>Step [] [(b23,blk 44 (u8s b.d))] w0 w) (C:=fun w=>Step [] [(b23,blk 44 (u8s b.d))] w0 w) 1000000 7 mixedP rfl ?_
       replace hs:=hs.drew
       refine aM 0 rfl<|aV 1 rfl (fun w hs=>run_loadN ty44 rfl hdl hs.a0)<|aM 3 rfl<|aV 4 rfl (fun w hs=>run_loadN ty44 rfl hdl hs.a0)<|AL.one 2 (by kernel_rfl) rfl (Step.dropR (L1:=[_]) hs) (Step.dropR (L1:=[_]) hs) ?_
       refine wE rfl (run_call en34 rfl rfl) (evict_abs hM.pr ok (Two.live (A:=_::_::_::LR) hs) hbl) ?_
       rintro e w ⟨L1,rfl,hP1,hq⟩
       refine⟨_,rfl,?_⟩
       replace hs:=Two.set (A:=_::_::_::LR) hs hq
       refine wZ<|⟨rfl,?_⟩
       refine AL.one 5 (by kernel_rfl) rfl (Step.dropR (L1:=[_]) hs) (Step.dropR (L1:=[_]) hs) ?_
       refine wE rfl (run_call en63 rfl rfl) (revict_abs hM.rr ok (Two.rlive (A:=_::_::_::LR) hs) hbl) ?_
       rintro e w ⟨R1,rfl,hR1,hq2⟩
       refine⟨_,rfl,?_⟩
       replace hs:=Two.rset (A:=_::_::_::LR) hs hq2
       refine wZ<|⟨rfl,?_⟩
       refine aV 6 rfl (fun w hs=>run_neqB u4 rfl rfl)<|AL.end (by kernel_rfl) (Step.dropR (L1:=[_]) hs) (Step.dropR (L1:=[_]) hs) ?_
       have hs2:=hs.tail
       have hMI2:MI b53 bp br k [(b3,blk 28 x.cells)] w0 40000600 400 w:=⟨s.evict b.d,roots,vR,LR,L1,R1,D,⟨hP1,hR1,ok.del b.d,hM.small.evict _,hM.vr,hM.r32,hs2.perm (by simp[append_assoc])⟩,few.evict b.d,hsk,hrl⟩
       refine CW.cond rfl (fun h=>?_) (fun h=>?_)
       ·simp at h
       refine ck<|cr<|wm<|wP ((i+1:Nat):Int)<|wA<|wZ<|(show _∧_ from⟨rfl,_,?_,i+1,h200,hlt,rfl,hMI2,rfl,rfl,rfl,rfl,rfl,rfl,trivial⟩)
       omega
      ·refine WL.alloc ty44 rfl hs (fun b23 w hs=>?_)
       refine wZ<|⟨rfl,?_⟩
       refine AL.one 14 (by kernel_rfl) rfl (by exact hs.tail) (by exact hs.tail) ?_
       refine wE rfl (run_call en46 rfl rfl) (hrnd _) ?_
       rintro e w ⟨rfl,hq⟩
       refine⟨_,rfl,?_⟩
       replace hs:=hs.callE hq
       refine wZ<|⟨rfl,?_⟩
       refine aV 15 rfl (fun w hs=>run_ixSlN u52 ty80 rfl rfl (by omega))<|aF 16 rfl 0 u80 rfl ty44 rfl<|aV 17 rfl (fun w hs=>run_loadN ty44 rfl hdl (hrw hs))<|AL.one 19 (by kernel_rfl) rfl (by exact hs.tail) (by exact hs.tail) ?_
       refine WL.storeAll ty44 rfl rfl (hdl) (Cells1.u8s _) hs (by rfl) (fun w hs=>?_)
       refine wZ<|⟨rfl,?_⟩
       refine AL.end (by kernel_rfl) (by exact hs.tail) (by exact hs.tail) ?_
       replace hs:Step [] (((b23,blk 44 (u8s b.d))::(b3,blk 28 x.cells)::(b53,blk 42 (w8C bp br vR))::LR)++(L++(R++D))) w0 w:=hs
       refine cq<|CW.any (A:=fun w=>Step [] [(b23,blk 44 (u8s b.d))] w0 w) (C:=fun w=>Step [] [(b23,blk 44 (u8s b.d))] w0 w) 1000000 7 mixedP rfl ?_
       replace hs:=hs.drew
       refine aM 0 rfl<|aV 1 rfl (fun w hs=>run_loadN ty44 rfl hdl hs.a0)<|aM 3 rfl<|aV 4 rfl (fun w hs=>run_loadN ty44 rfl hdl hs.a0)<|AL.one 2 (by kernel_rfl) rfl (Step.dropR (L1:=[_]) hs) (Step.dropR (L1:=[_]) hs) ?_
       refine wE rfl (run_call en34 rfl rfl) (evict_abs hM.pr ok (Two.live (A:=_::_::_::LR) hs) hbl) ?_
       rintro e w ⟨L1,rfl,hP1,hq⟩
       refine⟨_,rfl,?_⟩
       replace hs:=Two.set (A:=_::_::_::LR) hs hq
       refine wZ<|⟨rfl,?_⟩
       refine AL.one 5 (by kernel_rfl) rfl (Step.dropR (L1:=[_]) hs) (Step.dropR (L1:=[_]) hs) ?_
       refine wE rfl (run_call en63 rfl rfl) (revict_abs hM.rr ok (Two.rlive (A:=_::_::_::LR) hs) hbl) ?_
       rintro e w ⟨R1,rfl,hR1,hq2⟩
       refine⟨_,rfl,?_⟩
       replace hs:=Two.rset (A:=_::_::_::LR) hs hq2
       refine wZ<|⟨rfl,?_⟩
       refine aV 6 rfl (fun w hs=>run_neqB u4 rfl rfl)<|AL.end (by kernel_rfl) (Step.dropR (L1:=[_]) hs) (Step.dropR (L1:=[_]) hs) ?_
       have hs2:=hs.tail
       have hMI2:MI b53 bp br k [(b3,blk 28 x.cells)] w0 40000600 400 w:=⟨s.evict b.d,roots,vR,LR,L1,R1,D,⟨hP1,hR1,ok.del b.d,hM.small.evict _,hM.vr,hM.r32,hs2.perm (by simp[append_assoc])⟩,few.evict b.d,hsk,hrl⟩
       refine CW.cond rfl (fun h=>?_) (fun h=>?_)
       ·simp at h
       refine ck<|cr<|wm<|wP ((i+1:Nat):Int)<|wA<|wZ<|(show _∧_ from⟨rfl,_,?_,i+1,h200,hlt,rfl,hMI2,rfl,rfl,rfl,rfl,rfl,rfl,trivial⟩)
       omega
     ·cases h
    ·refine cq<|sr<|wm<|wF 4 u28 rfl ty25 rfl<|wl ty25 rfl (hXc (hMI.get hXm))<|wL u25 rfl<|lT<|wm<|wy<|wm<|wy<|lT<|pT<|wm ?_
     refine wy<|wm<|wy<|wn rfl<|wy<|wF 3 u54 rfl ty52 rfl<|wy<|wl ty52 rfl ((hlk hM.hs).1.cell (j:=3) rfl)<|wy<|wL u52 rfl<|wy<|xF<|pT<|wZ ?_
     refine CW.cond rfl (fun h=>?_) (fun h=>?_)
     ·cases h
     refine CW.exit ?_
     exact⟨rfl,hMI,rfl,rfl,rfl,rfl,rfl,trivial⟩
   ·refine cq<|sr<|wm<|wF 4 u28 rfl ty25 rfl<|wl ty25 rfl (hXc (hMI.get hXm))<|wL u25 rfl<|lT<|wm<|wy<|wm<|wy<|lF<|pT<|wm<|wz<|wz<|wz<|wz<|wz<|wz<|pF<|wZ ?_
    refine CW.cond rfl (fun h=>?_) (fun h=>?_)
    ·cases h
    refine CW.exit ?_
    exact⟨rfl,hMI,rfl,rfl,rfl,rfl,rfl,trivial⟩
  ·refine cq<|sr<|wm<|wF 4 u28 rfl ty25 rfl<|wl ty25 rfl (hXc (hMI.get hXm))<|wL u25 rfl<|lF<|wm<|wz<|wz<|pF<|wm<|wz<|wz<|wz<|wz<|wz<|wz<|pF<|wZ ?_
   refine CW.cond rfl (fun h=>?_) (fun h=>?_)
   ·cases h
   refine CW.exit ?_
   exact⟨rfl,hMI,rfl,rfl,rfl,rfl,rfl,trivial⟩
 clear hMI
 rintro f w ⟨hMI,hf⟩
 have ob:=hf.chain
 obtain⟨g,rfl⟩:=ob
 obtain⟨s,roots,vR,LR,L,R,D,hM,few,hsk,hrl⟩:=hMI
 have hs:=hM.hs
 have hal:=fun{w:World} (h:MX b53 bp br [(b3,blk 28 x.cells)] w0 s roots vR LR L R D w)=>alike8_spec (w0:=w) h.pr h.rr h.ok h.lives h.rlives
 have hMw:=fun{w:World} (h:Step [] ([(b3,blk 28 x.cells)]++((b53,blk 42 (w8C bp br vR))::(LR++(L++(R++D))))) w0 w)=>(⟨hM.pr,hM.rr,hM.ok,hM.small,hM.vr,hM.r32,h⟩:MX b53 bp br [(b3,blk 28 x.cells)] w0 s roots vR LR L R D w)
 refine cq<|CW.quiet mixedP (by kernel_rfl) hs ?_
 refine qm<|qm<|qn rfl<|qF 0 u42 rfl ty39 rfl<|qL ty39 rfl (fun w hs=>(hMw hs).wc.cell (j:=0) rfl)<|qm<|qn rfl<|qF 1 u42 rfl ty40 rfl<|qL ty40 rfl (fun w hs=>(hMw hs).wc.cell (j:=1) rfl)<|QL.enter rfl (fun w=>run_call en22 rfl rfl) (fun w hs=>hal (hMw hs)) ?_
 refine qA<|qA<|QL.nil (fun w hs=>?_)
 refine CW.ret ?_
 refine fin_ret2 rfl ?_
 exact⟨b53,bp,br,rfl,s,roots,vR,LR,L,R,D,(hMw hs).drop (A:=[(b3,blk 28 x.cells)]),few.mono (by omega),hsk,hrl⟩
end Go.Gx
namespace Go.Gx
open Go.Proofs Go.RowKit List
def kf8:(List UInt8):=[161,40,113,254,226,16,251,134,25,41,30,174,161,148,88,28,189,37,49,228,178,55,89,210,37,246,128,105,35,246,50,34]
def kd8:(List UInt8):=[57,223,184,154,222,43,219,127,98,240,8,144,244,168,7,45,94,53,177,31,0,144,215,30,171,238,148,31,57,35,52,40]
def kEnt8:Ent:=⟨[120],1,kf8⟩
def ky8:(List UInt8):=[1,1,1,1,120,32]++kf8
theorem kf8_eq:frontL [1,2] 32=kf8:=by decide +kernel
theorem ky8_eq:encB [kEnt8]=ky8:=by decide +kernel
theorem kd8_eq:frontL ky8 32=kd8:=by decide +kernel
def kS1:AS:=⟨32,1000,1,0,1,[⟨kf8,[1,2],1⟩]⟩
def kS2:AS:=⟨32,1000,2,0,2,[⟨kd8,ky8,2⟩,⟨kf8,[1,2],1⟩]⟩
theorem k8_run:(runs kS2 (rmOf 9 9 9) [rootS kd8] ws0).1=0∧reachL (runs kS2 (rmOf 9 9 9) [rootS kd8] ws0)=[kd8,kf8]:=by decide +kernel
theorem put_new{s s2:AS}{y d:U8} (h1:y.length≤1048576) (hd:frontL y s.k=d) (h2:findX d s.X=none) (h3:({ s with puts:=s.puts+1 }:AS).lay d y=some s2):s.put y=(d,0,s2):=by
 subst hd
 unfold AS.put
 simp only
 rw[if_neg (by omega),h2]
 simp only
 rw[h3]
theorem k8_put1:(newS 32 1000).put [1,2]=(kf8,0,kS1):=put_new (by decide) kf8_eq (by kernel_rfl) (by kernel_rfl)
theorem k8_put2:kS1.put ky8=(kd8,0,kS2):=put_new (by decide) kd8_eq (by kernel_rfl) (by kernel_rfl)
attribute [local irreducible] shaL cutD frontL
theorem bld_k8 (w:World):(Instr.build 115 #[(0,str [120]),(1,.int .i64 1),(2,.agg (u8s kf8).toArray)]).run Tryz.prog w=.ok (.agg kEnt8.cells.toArray) w:=by kernel_rfl
theorem fill_k8:Filled 32 2 (List.replicate 32 (Value.int .u8 0)) [(0,.agg (u8s kd8).toArray),(1,.agg (u8s kf8).toArray)] (u8s kd8++u8s kf8):=by unfold Filled;kernel_rfl
theorem kS1_ok:kS1.Ok∧kS1.Few 5:=by
 have h:=newS_ok (k:=32) (c:=1000) (by omega) (by omega) (by omega)
 have h2:=h.put [1,2]
 rw[k8_put1] at h2
 exact⟨h2,⟨by decide,by decide,by decide⟩⟩
theorem kS2_ok:kS2.Ok∧kS2.Few 5:=by
 have h2:=kS1_ok.1.put ky8
 rw[k8_put2] at h2
 exact⟨h2,⟨by decide,by decide,by decide⟩⟩
theorem rm9_ok:(rmOf 9 9 9).Ok:=⟨by decide,by decide,by decide⟩
set_option maxHeartbeats 8000000 in
theorem known8_spec (w0:World):CP 15 #[] w0 (Ret0 (.bool true) w0):=by
 have hs:Step [] [] w0 w0:=Step.refl w0
 have hfl:(u8s kf8).length=32:=rfl
 have hdl:(u8s kd8).length=32:=rfl
 have hel:kEnt8.cells.length=34:=rfl
 have heo:Oks [kEnt8]:=Oks.one ⟨rfl,by decide,by decide,by decide⟩
 have hp1:=fun{bp:Nat}{w:World}{D L:OL}{v:Value} (hR:PRep bp (newS 32 1000) D L) hw hy hr hO=>put_abs (w0:=w) (y:=[1,2]) (v:=v) (n:=0) hR (newS_ok (by omega) (by omega) (by omega)) newS_few (by omega) hw hy hr hO (by decide)
 have hp2:=fun{bp:Nat}{w:World}{D L:OL}{v:Value} (hR:PRep bp kS1 D L) hw hy hr hO=>put_abs (w0:=w) (y:=ky8) (v:=v) (n:=5) hR kS1_ok.1 kS1_ok.2 (by omega) hw hy hr hO (by decide)
 have hre:=fun{bp:Nat}{w:World}{D L:OL} (hR:PRep bp kS2 D L) hw=>reach_spec (w0:=w) (d:=kd8) (rn:=9) (rd:=9) (rb:=9) hR kS2_ok.1 kS2_ok.2 (by omega) rfl rm9_ok hw
 simp only[k8_put1] at hp1
 simp only[k8_put2] at hp2
 simp only[k8_run.1,k8_run.2] at hre
 refine calls (n:=56) Tryz.func15 rfl rfl rfl ?_
 refine sr<|wA<|wZ<|sr<|wE rfl (run_call en56 rfl rfl) (new_abs (k:=32) (c:=1000) (by omega) (by omega) (by omega) _) ?_
 rintro e w ⟨bp,L0,rfl,hP0,hq⟩
 refine⟨_,rfl,?_⟩
 replace hs:=hs.callAll0 hq
 refine wm<|wx rfl rfl<|wx rfl rfl<|wA<|wA<|wZ<|cq<|sr<|wm<|wV (run_bF (run_neq rfl rfl) (by exact fun h=>h rfl))<|wm<|wy<|wm ?_
 refine wy<|wV (run_ptrNil u39 rfl rfl)<|pF<|wZ<|CW.cond rfl (fun h=>?_) (fun h=>?_)
 ·cases h
 refine ck<|sr<|wm<|WL.buildSlice (cs:=u8s [1,2]) u76 ty5 rfl (by decide) rfl (by rfl) rfl hs (fun b23 w hs=>?_)
 replace hs:Step [] ([(b23,blk 5 (u8s [1,2]))]++(L0++[])) w0 w:=by rw[append_nil];exact hs
 have hsl23:Sl w 1 (.slice (some ⟨b23,0,none⟩) 2 2) [(1:UInt8),2].length (u8s [1,2]):=Sl.mk rfl (At.of_blk hs.hd)
 refine wE rfl (run_call en36 rfl rfl) (hp1 hP0 (Own.live (A:=[_]) hs) hsl23 (Nat.le_refl _) (.inr (fun hm=>by have hn:=hs.nodup;rw[map_append,nodup_append] at hn;exact hn.2.2 b23 (by simp) b23 (by rw[map_append];exact mem_append_left _ hm) rfl))) ?_
 rintro e w ⟨L1,D1,rfl,hP1,hq⟩
 refine⟨_,rfl,?_⟩
 replace hs:=Own.put (A:=[_]) hs hq
 refine wm<|wx rfl rfl<|wx rfl rfl<|WL.alloc ty44 rfl hs (fun b3 w hs=>?_)
 refine WL.storeAll ty44 rfl rfl ((hfl)) ((Cells1.u8s _)) hs (by rfl) (fun w hs=>?_)
 refine wA<|wZ<|sr<|wR ty44 rfl hfl hs.a0<|wV (run_build rfl (bld_k8 _))<|WL.buildSlice (cs:=kEnt8.cells) u116 ty115 rfl (by decide) rfl (filled1 hel rfl) rfl hs (fun b30 w hs=>?_)
 have hes:Es w (.slice (some ⟨b30,0,none⟩) 1 1) [kEnt8]:=⟨Sl.mk (by rw[rows_one];exact hel) (by rw[rows_one];exact At.of_blk hs.hd),heo,by simp⟩
 refine wE rfl (run_call en57 rfl rfl) (encodeR_ok _ hes (Nat.le_refl _) (by decide)) ?_
 rintro e w ⟨v5,L5,rfl,hv5,hq⟩
 refine⟨_,rfl,?_⟩
 replace hs:=Step.call0 hs hq
 refine wm<|wx rfl rfl<|wx rfl rfl<|wA<|wA<|wZ ?_
 rw[ky8_eq] at hv5
 have ob:=hv5.form
 obtain⟨ya,yc,rfl⟩:=ob
 replace hs:Step [] ((L5++[(b30,blk 115 kEnt8.cells),(b3,blk 44 (u8s kf8)),(b23,blk 5 (u8s [1,2]))])++(L1++(D1++[]))) w0 w:=by rw[append_assoc];exact hs
 have hsl5:Sl w 1 (.slice ya ky8.length yc) ky8.length (u8s ky8):=hv5.slW fun p hp=>hs.has p (by simp[hp])
 have hout:OutE (.slice ya ky8.length yc) ky8 (L1.map (·.1)):=.inr (Held.out (show Held L5 (.slice ya ky8.length yc) ky8 from⟨L5,hv5,fun p hp=>hp⟩) fun p hp hm=>by
  have hn:=hs.nodup
  rw[map_append,nodup_append] at hn
  exact hn.2.2 p.1 (by simp only[map_append,mem_append];exact .inl (mem_map_of_mem hp)) p.1 (by rw[map_append];exact mem_append_left _ hm) rfl)
 refine sr<|wm<|wm<|wE rfl (run_call en36 rfl rfl) (hp2 hP1 (Own.live hs) hsl5 (hv5.roomW (by omega)) hout) ?_
 rintro e w ⟨L2,D2,rfl,hP2,hq⟩
 refine⟨_,rfl,?_⟩
 replace hs:=Own.put hs hq
 refine wm<|wx rfl rfl<|wx rfl rfl<|WL.alloc ty44 rfl hs (fun b7 w hs=>?_)
 refine WL.storeAll ty44 rfl rfl ((hdl)) ((Cells1.u8s _)) hs (by rfl) (fun w hs=>?_)
 refine wA<|wZ ?_
 replace hs:Step [] (((b7,blk 44 (u8s kd8))::(L5++[(b30,blk 115 kEnt8.cells),(b3,blk 44 (u8s kf8)),(b23,blk 5 (u8s [1,2]))]))++(L2++(D2++(D1++[])))) w0 w:=hs
 refine sr<|wm<|wR ty44 rfl hdl hs.a0<|wV (run_build rfl (bld_room _ _ _ _))<|wE rfl (run_call en17 rfl rfl) (hre hP2 (Own.live hs)) ?_
 rintro e w ⟨v9,L9,L3,D3,rfl,hP3,hv9,hq⟩
 refine⟨_,rfl,?_⟩
 replace hs:=Own.put (A:=_::(L5++[_,_,_])) (L:=L2) hs hq
 refine wm<|wx rfl rfl<|wx rfl rfl<|wA<|wA<|wZ ?_
 have hb3:At w b3 0 (u8s kf8):=At.of_blk (hs.has (b3,blk 44 (u8s kf8)) (by simp))
 refine sr<|wm<|wV (run_bT (run_eql rfl rfl) (by rfl))<|wm<|wy<|wm<|wy<|wR ty44 rfl hdl hs.a0<|wy<|wR ty44 rfl hfl hb3<|wy<|WL.buildSlice (cs:=u8s kd8++u8s kf8) u35 ty44 rfl (by decide) rfl (fill_k8) rfl hs (fun b53 w hs=>?_)
 have hd53:Dgs w (.slice (some ⟨b53,0,none⟩) 2 2) [kd8,kf8]:=⟨Sl.mk rfl (At.of_blk hs.hd),by decide,by decide⟩
 have hd9:Dgs w v9 [kd8,kf8]:=Dgs.own hv9 (fun p hp=>hs.has p (by simp[hp])) (by decide) (by decide)
 refine wy<|wE rfl (run_call en20 rfl rfl) (sameD_spec hd9 hd53) ?_
 rintro e w ⟨rfl,hq⟩
 refine⟨_,rfl,?_⟩
 replace hs:=hs.callE hq
 refine pT<|wA<|wZ<|CW.ret ?_
 refine fin_ret1 rfl ?_
 exact⟨rfl,hs.clear⟩
end Go.Gx
namespace Go.Gx
open Go.Proofs Go.RowKit List
attribute [local irreducible] shaL cutD frontL
theorem visit_g{s:AS}{rm:Rm}{x:Std}{t:WS}{k:Nat} (h:t.Good k):(visit s rm x t).2.2.g≤65537:=by
 have h1:=h.g
 have h2:=h.n
 unfold visit
 split
 ·show t.g≤_;omega
 split
 ·show t.g≤_;omega
 split
 ·show t.g+1≤_;omega
 split
 ·split
  ·show t.g+1≤_;omega
  ·show t.g+1≤_;omega
 ·split
  ·show t.g+1≤_;omega
  ·show t.g+1≤_;omega
theorem seqS_g{f:Std→WS→Int×WS} (hf:∀x t,t.Good 0→(f x t).2.g≤65537) (hg:∀x t,t.Good 0→(f x t).1=0→(f x t).2.Good 0):∀{l:List Std}{t:WS},t.Good 0→(seqS f l t).2.g≤65537
 | [],t,h=>by have h1:=h.g;have h2:=h.n;show t.g≤_;omega
 | x::l,t,h=>by
  rw[seqS]
  by_cases c:(f x t).1≠0
  ·rw[if_pos c];exact hf x t h
  ·rw[if_neg c]
   exact seqS_g hf hg (hg x t h (by simpa using c))
theorem standP_g{s:AS}{rm:Rm} (hrm:rm.Ok):∀(n:Nat){x:Std}{t:WS},t.Good (kOf x)→(standP s rm n x t).2.g≤65537
 | 0,x,t,h=>by have h1:=h.g;have h2:=h.n;show t.g≤_;omega
 | n+1,x,t,h=>by
  rw[standP]
  by_cases c:(visit s rm x t).1≠0
  ·rw[if_pos c];exact visit_g h
  ·rw[if_neg c]
   exact seqS_g (fun y u hu=>standP_g hrm n (push_good y hu)) (fun y u hu hy=>standP_good hrm n (push_good y hu) hy) (visit_good hrm h (by simpa using c))
theorem runs_g{s:AS}{rm:Rm} (hrm:rm.Ok) (d:U8):(runs s rm [rootS d] ws0).2.g≤65537:=by
 rw[runs_root]
 exact standP_g hrm 34 (ws0_good.mono (by omega))
theorem Stup.Ok.step0{x:Stup}{w w':World}{L:OL} (h:x.Ok w) (hs:Step [] L w w'):x.Ok w':=
 ⟨h.cap,h.sT.step0 hs,fun t ht=>⟨(h.T t ht).1.step0 hs,(h.T t ht).2⟩,h.sN.step0 hs,fun t ht=>⟨(h.N t ht).1.step0 hs,(h.N t ht).2⟩,h.sB.step0 hs,fun t ht=>⟨(h.B t ht).1.step0 hs,(h.B t ht).2⟩,h.sE.step0 hs,h.E,h.sP.step0 hs,fun t ht=>⟨(h.P t ht).1,(h.P t ht).2.1.step0 hs,(h.P t ht).2.2⟩⟩
section
variable{f:Slots}{w:World}{d:Option Tmp}{ty:TypeId}{pos:String}{af:Array Edge}{x y:Operand}{T':TypeId}
end
theorem perm_w1{α:Type}{a b c:α}{LR L R D:List α}:((a::(LR++(L++(R++D))))++[b,c]).Perm ((b::c::a::LR)++(L++(R++D))):=by
 classical exact perm_iff_count.2 fun x=>by simp only[count_append,count_cons,count_nil];omega
section
variable{wd cp z rn rd rb:Int}{x:Stup}
end
end Go.Gx
namespace Go.Gx
open Go.Proofs Go.ChangeShapes Go.WideShapes Go.ChangeAt Go.RowKit Go.Deep List
open Go.Proofs.YtplmnkogkfhaiaaGreat (Rows.uptoBulk Rows.uptoBulkAll)
theorem Step.below{L:OL}{w w':World} (h:Step [] L w w'):Below w.heap.size w w':=
 ⟨h.chg.os,h.chg.tape,h.chg.output,h.chg.size,fun k hk=>h.chg.block k hk (by simp)⟩
section
variable{H:Type}
theorem bulk_pos:∀d:DataW H,1≤Rows.uptoBulk d
 | .lit x=>by cases x <;> simp[Rows.uptoBulk]
 | .nil=>by simp[Rows.uptoBulk]
 | .ptr d=>by simp[Rows.uptoBulk]
 | .slice a b=>by simp[Rows.uptoBulk]
 | .agg a=>by simp[Rows.uptoBulk]
 | .iface _ d=>by simp[Rows.uptoBulk]
 | .map a=>by simp[Rows.uptoBulk]
 | .held _=>by simp[Rows.uptoBulk]
theorem bulk_len:∀l:List (DataW H),l.length≤Rows.uptoBulkAll l
 | []=>by simp[Rows.uptoBulkAll]
 | d::l=>by
  have h1:=bulk_pos d
  have h2:=bulk_len l
  simp only[Rows.uptoBulkAll,length_cons]
  omega
theorem bulk_mem:∀{l:List (DataW H)}{d:DataW H},d∈l→Rows.uptoBulk d≤Rows.uptoBulkAll l
 | x::l,d,h=>by
  simp only[Rows.uptoBulkAll]
  rcases mem_cons.1 h with rfl | h
  ·omega
  ·have:=bulk_mem h;omega
end
theorem mapM_get{α β:Type}{f:α→Option β}:∀{l:List α}{r:List β},l.mapM f=some r→r.length=l.length∧∀(i:Nat) (h:i<l.length),f l[i]=r[i]?
 | [],r,h=>by
  simp at h
  subst h
  exact⟨rfl,fun i h=>by simp at h⟩
 | x::l,r,h=>by
  rw[mapM_cons] at h
  cases hx:f x with
  | none=>rw[hx] at h;cases h
  | some y=>
   cases hl:l.mapM f with
   | none=>rw[hx,hl] at h;cases h
   | some ys=>
    rw[hx,hl] at h
    obtain rfl:y::ys=r:=by simpa using h
    have ob:=mapM_get hl
    obtain⟨h1,h2⟩:=ob
    refine⟨by simp[h1],fun i hi=>?_⟩
    cases i with
    | zero=>simpa using hx
    | succ i=>simpa using h2 i (by simpa using hi)
theorem At.cells{w:World}{base b off n:Nat}{cs:List Value} (h:w.cells? base ⟨b,off,none⟩ n=some cs):cs.length=n∧At w b off cs:=by
 unfold World.cells? at h
 split at h
 ·have ob:=mapM_get h
  obtain⟨h1,h2⟩:=ob
  rw[length_range] at h1
  refine⟨h1,fun j v hj=>?_⟩
  have hlt:j<n:=by
   rw[←h1]
   exact(List.getElem?_eq_some_iff.1 hj).1
  have:=h2 j (by simpa using hlt)
  rw[getElem_range,hj,add_off] at this
  exact this
 ·cases h
theorem choose_any{α:Type}{p:Nat→α→Prop}:∀n:Nat,(∀i,i<n→∃x,p i x)→∃l:List α,l.length=n∧∀(i:Nat) (h:i<l.length),p i l[i]
 | 0,_=>⟨[],rfl,fun i h=>by simp at h⟩
 | n+1,h=>by
  have ob:=choose_any n fun i hi=>h i (by omega)
  obtain⟨l,hl,hp⟩:=ob
  have ob:=h n (by omega)
  obtain⟨x,hx⟩:=ob
  refine⟨l++[x],by simp[hl],fun i hi=>?_⟩
  by_cases hin:i<l.length
  ·rw[getElem_append_left hin];exact hp i hin
  ·have:i=l.length:=by simp at hi;omega
   subst this
   simp[hl]
   rw[hl] at *
   exact hx
theorem cell_spot{w:World}{a:Addr}{v:Value} (h:w.cell? a=some v):a.spot=none:=by
 unfold World.cell? at h
 split at h
 ·split at h
  ·cases h
  ·rename_i hs
   cases hsp:a.spot with
   | none=>rfl
   | some s=>rw[hsp] at hs;simp at hs
 ·cases h
theorem cells_spot{w:World}{base n:Nat}{a:Addr}{cs:List Value} (h:w.cells? base a n=some cs) (hn:0<n):a.spot=none:=by
 unfold World.cells? at h
 split at h
 ·have ob:=mapM_get h
  obtain⟨h1,h2⟩:=ob
  rw[length_range] at h1
  have h3:=h2 0 (by simpa using hn)
  rw[getElem_range,getElem?_eq_getElem (by omega)] at h3
  exact cell_spot (a:=a.add 0) h3
 ·cases h
section
variable{H:Type}{enc:TypeId×Value→H}{w:World}{spare:Nat→Bool}{held:Bool}
theorem trodAll_stays{P:Program} (hl:laidOutB P=true){W W':World} (hb:Below W.heap.size W W'):∀{ts:List TypeId}{vs:List Value}{ds:List (DataW H)}{p:List MemPlace},
  DataW.TrodAll enc P W 0 (fun _=>true) true ts vs ds p→(∀x∈p,x.block<W.heap.size)→(∀t∈ts,P.readableRec t=true∧t<P.types.size)→DataW.TrodAll enc P W' 0 (fun b=>decide (b<W.heap.size)) true ts vs ds p
 | [],vs,ds,p,h,_,_=>by
  have ob:=trodAll_nil h
  obtain⟨rfl,rfl,rfl⟩:=ob
  exact trodAll_mk0
 | t::ts,vs,ds,p,h,hlt,hr=>by
  have ob:=trodAll_cons h
  obtain⟨v,vs',d,ds',p',q,rfl,rfl,rfl,h0,h1⟩:=ob
  exact trodAll_cons_mk (Below.trod hl (hr t (by simp)).1 (hr t (by simp)).2 h0 hb (fun x hx=>hlt x (by simp[hx]))) (trodAll_stays hl hb h1 (fun x hx=>hlt x (by simp[hx])) (fun t ht=>hr t (by simp[ht])))
theorem open_i64{v:Value}{d:DataW H}{ps:List MemPlace}{r:Reach}{b0:Nat}{base:Nat} (hval:Value.okWide Tryz.prog w r b0 3 v) (h:DataW.Trod enc Tryz.prog w base spare held 3 v d ps):∃n:Int,v=.int .i64 n∧-9223372036854775808≤n∧n≤9223372036854775807:=by
 have ob:=open_int u3 hval h
 obtain⟨n,rfl,_,_,hw⟩:=ob
 simp only[Lit.wf,Bool.and_eq_true,decide_eq_true_eq] at hw
 have h0:(IntKind.i64).min = -9223372036854775808:=by decide
 have h255:(IntKind.i64).max=9223372036854775807:=by decide
 rw[h0,h255] at hw
 exact⟨n,rfl,hw.1,hw.2⟩
end
def i64s (n:Int):Prop:=-9223372036854775808≤n∧n≤9223372036854775807
theorem lit_i64{n:Int} (h:(Lit.int .i64 n).wf=true):i64s n:=by
 simp only[Lit.wf,Bool.and_eq_true,decide_eq_true_eq] at h
 have h0:(IntKind.i64).min = -9223372036854775808:=by decide
 have h255:(IntKind.i64).max=9223372036854775807:=by decide
 rw[h0,h255] at h
 exact h
theorem icells3{cs:List Value}{p v:Value}{o:Bool} (hl:cs.length=3) (h0:(cs.drop 0).take 1=[p]) (h1:(cs.drop 1).take 1=[.bool o]) (h2:(cs.drop 2).take 1=[v]):cs=[p,.bool o,v]:=by
 match cs,hl with
 | [a0,a1,a2],_=>
  have e0:a0=p:=by simpa using h0
  have e1:a1=.bool o:=by simpa using h1
  have e2:a2=v:=by simpa using h2
  rw[e0,e1,e2]
theorem flat_lens{α:Type}{c:α→List Value}{sz:Nat}:∀l:List α,(∀y∈l,(c y).length=sz)→(l.flatMap c).length=l.length*sz
 | [],_=>(Nat.zero_mul _).symm
 | x::l,h=>by
  rw[flatMap_cons,length_append,h x (by simp),flat_lens l fun y hy=>h y (by simp[hy]),length_cons,Nat.succ_mul,Nat.add_comm]
theorem At.joins{α:Type}{c:α→List Value}{sz:Nat}{w:World}{b:Nat}:∀(l:List α) (off:Nat),(∀y∈l,(c y).length=sz)→(∀(i:Nat) (h:i<l.length),At w b (off+i*sz) (c l[i]))→At w b off (l.flatMap c)
 | [],_,_,_=>At.nil
 | x::l,off,hl,h=>by
  have h1:=h 0 (by simp)
  have hx:=hl x (by simp)
  have h2:=At.joins (c:=c) (sz:=sz) l (off+sz) (fun y hy=>hl y (by simp[hy])) (fun i hi=>by
   have:=h (i+1) (by simpa using hi)
   rw[show off+sz+i*sz=off+(i+1)*sz by rw[Nat.succ_mul];omega]
   simpa using this)
  intro j v hj
  rw[flatMap_cons,getElem?_append] at hj
  split at hj
  ·have:=h1 j v hj
   simpa using this
  ·rw[hx] at hj
   have:=h2 (j - sz) v hj
   rename_i hlt
   rw[hx] at hlt
   rwa [show off+sz+(j - sz)=off+j by omega] at this
section
variable{H:Type}{enc:TypeId×Value→H}{w:World}{base:Nat}{spare:Nat→Bool}{held:Bool}{N:Nat}
theorem trod_bytes{fuel:Nat}{cs:List Value}{x:DataW H×List MemPlace} (h:DataW.trod enc Tryz.prog w base spare held fuel 76 cs=some x):∃v s,cs=[v]∧Sl w 1 v s.length (u8s s)∧Room v∧s.length≤9223372036854775807:=by
 have hc1:Tryz.prog.cellsOf 5=1:=ty5.cellsOf
 rcases ChangeShapes.open_ints (k:=.u8) u76 u5 hc1 h with⟨hc,_⟩ | ⟨a,len,cap,zs,hc,_,hlc,hcm,hm,hx,hi,hwf⟩
 ·exact⟨_,[],hc,Sl.nil _ _ _,Nat.le_refl 0,by simp⟩
 ·have hmx:maxLen=9223372036854775807:=by decide
  by_cases h0:len=0
  ·subst h0
   exact⟨_,[],hc,⟨rfl,.inl ⟨_,_,rfl,rfl⟩⟩,Nat.zero_le _,by simp⟩
  have hle:len≤zs.length:=by rw[hm];split <;> omega
  have hspot:a.spot=none:=cell_spot (a:=a.add 0) (hi 0 (by omega))
  obtain⟨b,off,sp⟩:=a
  simp only at hspot
  subst hspot
  have hval8:∀n∈zs,∃c:UInt8,n=c.toNat:=fun n hn=>by
   have hw:=hwf n hn
   simp only[Lit.wf,Bool.and_eq_true,decide_eq_true_eq] at hw
   have h0:(IntKind.u8).min=0:=by decide
   have h255:(IntKind.u8).max=255:=by decide
   rw[h0,h255] at hw
   refine⟨UInt8.ofNat n.toNat,?_⟩
   rw[UInt8.toNat_ofNat_of_lt' (show n.toNat<256 by omega)]
   omega
  have hu:((zs.take len).map fun n=>Value.int .u8 n)=u8s ((zs.take len).map fun n=>UInt8.ofNat n.toNat):=by
   unfold u8s
   rw[map_map]
   apply map_congr_left
   intro n hn
   have ob:=hval8 n (mem_of_mem_take hn)
   obtain⟨c,rfl⟩:=ob
   simp
  refine⟨_,(zs.take len).map fun n=>UInt8.ofNat n.toNat,hc,?_,hlc,by simp;omega⟩
  have hl2:((zs.take len).map fun n=>UInt8.ofNat n.toNat).length=len:=by simp;omega
  rw[hl2]
  refine .mk (by simp[u8s];omega) ?_
  rw[←hu]
  intro j v hj
  rw[getElem?_map] at hj
  cases hz:(zs.take len)[j]? with
  | none=>rw[hz] at hj;cases hj
  | some n=>
   rw[hz] at hj
   obtain rfl:Value.int .u8 n=v:=by simpa using hj
   have hjl:j<len:=by
    have:=(List.getElem?_eq_some_iff.1 hz).1
    simp at this
    omega
   have h2:=hi j (by omega)
   rw[add_off] at h2
   rw[h2]
   rw[getElem?_take,if_pos hjl] at hz
   simp[getD,hz]
theorem trod_dig{fuel:Nat}{cs:List Value}{x:DataW H×List MemPlace} (h:DataW.trod enc Tryz.prog w base spare held fuel 44 cs=some x):∃d:U8,d.length=32∧cs=u8s d:=by
 have ob:=DataW.trod_array u44 h
 obtain⟨xs,m,rfl,_,hl,hxl,hi⟩:=ob
 have hl32:cs.length=32:=hl.trans ty44.cellsOf
 have each:∀(i:Nat) (h:i<cs.length),∃c:UInt8,cs[i]=.int .u8 c.toNat:=fun i hlt=>by
  have h1:=hi i (by omega)
  rw[getElem?_eq_getElem (by omega)] at h1
  have hc:Tryz.prog.cellsOf 5=1:=ty5.cellsOf
  rw[hc,Nat.mul_one] at h1
  have ob:=DataW.trod_int u5 h1
  obtain⟨n,hn,_,hw⟩:=ob
  simp only[Lit.wf,Bool.and_eq_true,decide_eq_true_eq] at hw
  have h0:(IntKind.u8).min=0:=by decide
  have h255:(IntKind.u8).max=255:=by decide
  rw[h0,h255] at hw
  refine⟨UInt8.ofNat n.toNat,?_⟩
  have:cs[i]=.int .u8 n:=by
   rw[drop_eq_getElem_cons hlt] at hn
   exact(List.cons.inj hn).1
  rw[this,UInt8.toNat_ofNat_of_lt' (show n.toNat<256 by omega)]
  congr 1
  omega
 refine⟨(List.range 32).map fun i=>if h:i<cs.length then Classical.choose (each i h) else 0,by simp,?_⟩
 apply ext_getElem
 ·simp[u8s,hl32]
 ·intro i h1 h2
  have:=Classical.choose_spec (each i h1)
  simp[u8s,h1]
  exact this
theorem trod_ent{fuel:Nat}{cs:List Value}{x:DataW H×List MemPlace} (h:DataW.trod enc Tryz.prog w base spare held fuel 115 cs=some x):∃y:Ent,y.ok∧cs=y.cells:=by
 have ob:=trod_struct3 u115 h
 obtain⟨y0,y1,y2,n,rfl,hl,h0,h1,h2⟩:=ob
 have hl34:cs.length=34:=hl.trans ty115.cellsOf
 have c9:Tryz.prog.cellsOf 9=1:=ty9.cellsOf
 have c3:Tryz.prog.cellsOf 3=1:=ty3.cellsOf
 have c46:Tryz.prog.cellsOf 44=32:=ty44.cellsOf
 have ob:=DataW.trod_string u9 h0
 obtain⟨s,hs,hx0,hsz⟩:=ob
 have ob:=DataW.trod_int u3 h1
 obtain⟨k,hk,_,hw⟩:=ob
 have ob:=trod_dig h2
 obtain⟨d,hd,hdd⟩:=ob
 rw[c9] at hs
 rw[c3] at hk
 rw[c46] at hdd
 simp only[Lit.wf,Bool.and_eq_true,decide_eq_true_eq] at hw
 have h0:(IntKind.i64).min = -9223372036854775808:=by decide
 have h255:(IntKind.i64).max=9223372036854775807:=by decide
 rw[h0,h255] at hw
 have hmx:maxLen=9223372036854775807:=by decide
 refine⟨⟨s.data.toList,k,d⟩,⟨hd,hw.1,hw.2,?_⟩,?_⟩
 ·show s.data.size≤_
  have:s.data.size=s.size:=rfl
  omega
 ·match cs,hl34 with
  | a::b::r,hl34=>
   have ha:a=.string s:=by simpa using hs
   have hb:b=.int .i64 k:=by simpa using hk
   have hr:r=u8s d:=by
    have:r.take 32=u8s d:=by simpa using hdd
    rwa [take_of_length_le (by simp at hl34;omega)] at this
   rw[ha,hb,hr]
   rfl
theorem open_many{α:Type}{st t:TypeId}{sz:Nat}{c:α→List Value}{Ok:α→Prop} (hu:Tryz.prog.underlying st=some (.slice t)) (hc:Tryz.prog.cellsOf t=sz) (hsz:0<sz) (hlen:∀y,Ok y→(c y).length=sz)
  (el:∀{fuel:Nat}{cs:List Value}{x:DataW H×List MemPlace},DataW.trod enc Tryz.prog w base spare held fuel t cs=some x→Rows.uptoBulk x.1≤N→∃y,Ok y∧cs=c y)
  {fuel:Nat}{cs:List Value}{x:DataW H×List MemPlace} (h:DataW.trod enc Tryz.prog w base spare held fuel st cs=some x) (hN:Rows.uptoBulk x.1≤N) :
  ∃(v:Value) (l:List α),cs=[v]∧Sl w sz v l.length (l.flatMap c)∧(∀y∈l,Ok y)∧Room v∧l.length≤9223372036854775807:=by
 rcases open_slice hu h with⟨rfl,_⟩ | ⟨a,len,cap,m,n,D,Pl,rfl,_,hlc,hcm,hm,rfl,hi⟩
 ·exact⟨_,[],rfl,Sl.nil _ _ _,fun x hx=>(by cases hx),Nat.le_refl 0,by simp⟩
 ·have hmx:maxLen=9223372036854775807:=by decide
  have hle:len≤m:=by rw[hm];split <;> omega
  have hlen2:=bulk_len ((List.range len).map D)
  simp only[length_map,length_range] at hlen2
  simp only[Rows.uptoBulk] at hN
  by_cases h0:len=0
  ·subst h0
   exact⟨_,[],rfl,⟨by simp,.inl ⟨_,_,rfl,rfl⟩⟩,fun x hx=>(by cases hx),hlc,by simp⟩
  have hspot:a.spot=none:=by
   have ob:=hi 0 (by omega)
   obtain⟨cs',h1,_⟩:=ob
   rw[hc] at h1
   have h5:=cells_spot (a:=a.add (0*sz)) h1 hsz
   revert h5
   cases h6:a.spot <;> simp[Addr.add,h6]
  obtain⟨b,off,sp⟩:=a
  simp only at hspot
  subst hspot
  obtain⟨l,hl,hp⟩:=choose_any (p:=fun i x=>Ok x∧At w b (off+i*sz) (c x)) len fun i hi'=>by
   have ob:=hi i (by omega)
   obtain⟨cs',h1,h2⟩:=ob
   rw[hc,add_off] at h1
   have h7:Rows.uptoBulk (D i)≤Rows.uptoBulkAll ((List.range len).map D):=bulk_mem (mem_map.2 ⟨i,by simp;omega,rfl⟩)
   have ob:=el h2 (by show Rows.uptoBulk (D i)≤N;omega)
   obtain⟨x,hxo,hxc⟩:=ob
   exact⟨x,hxo,hxc▸(At.cells h1).2⟩
  have hok:∀x∈l,Ok x:=fun x hx=>by
   have ob:=mem_iff_getElem.1 hx
   obtain⟨i,hi',rfl⟩:=ob
   exact(hp i hi').1
  have hj:=At.joins (w:=w) (b:=b) l off (fun y hy=>hlen y (hok y hy)) (fun i hi=>(hp i hi).2)
  refine⟨_,l,rfl,?_,hok,hlc,by omega⟩
  exact hl▸.mk (flat_lens l fun y hy=>hlen y (hok y hy)) hj
theorem trod_it{fuel:Nat}{cs:List Value}{x:DataW H×List MemPlace} (h:DataW.trod enc Tryz.prog w base spare held fuel 155 cs=some x) (hN:Rows.uptoBulk x.1≤N):∃y:It,(y.Ok w∧y.p.length≤N)∧cs=itC y.p y.d y.v:=by
 have ob:=DataW.trod_struct u155 h
 obtain⟨xs,m,_,hxe,hl,hlen,hf⟩:=ob
 have hl3:cs.length=3:=hl.trans ty155.cellsOf
 match xs,hlen,hxe with
 | [y0,y1,y2],_,hxe=>
  have f0:=hf 0 _ rfl
  have f1:=hf 1 _ rfl
  have f2:=hf 2 _ rfl
  have ob:=DataW.trod_string u9 (f0.trans rfl)
  obtain⟨s,hs,hse,hsz⟩:=ob
  have ob:=DataW.trod_bool u4 (f1.trans rfl)
  obtain⟨o,ho,_⟩:=ob
  have ob:=trod_bytes (f2.trans rfl)
  obtain⟨vb,b,hb,hbs,hbr,hbl⟩:=ob
  replace hs:(cs.drop 0).take (Tryz.prog.cellsOf 9)=[.string s]:=hs
  replace ho:(cs.drop 1).take (Tryz.prog.cellsOf 4)=[.bool o]:=ho
  replace hb:(cs.drop 2).take (Tryz.prog.cellsOf 76)=[vb]:=hb
  rw[ty9.cellsOf] at hs
  rw[ty4.cellsOf] at ho
  rw[ty76.cellsOf] at hb
  have hmx:maxLen=9223372036854775807:=by decide
  refine⟨⟨s.data.toList,o,vb,b⟩,⟨⟨hbs,?_,hbl⟩,?_⟩,icells3 hl3 hs ho hb⟩
  ·show s.data.size≤_
   have:s.data.size=s.size:=rfl
   omega
  ·rw[hxe] at hN
   show s.data.toList.length≤_
   simp only[map_cons,map_nil,Rows.uptoBulk,Rows.uptoBulkAll,hse] at hN
   omega
theorem trod_int1{fuel:Nat}{cs:List Value}{x:DataW H×List MemPlace} (h:DataW.trod enc Tryz.prog w base spare held fuel 3 cs=some x):∃n:Int,i64s n∧cs=[.int .i64 n]:=by
 have ob:=DataW.trod_int u3 h
 obtain⟨n,hn,_,hw⟩:=ob
 exact⟨n,lit_i64 hw,hn⟩
theorem trod_plant{fuel:Nat}{cs:List Value}{x:DataW H×List MemPlace} (h:DataW.trod enc Tryz.prog w base spare held fuel 124 cs=some x):∃t:Int×Value×List UInt8,((-9223372036854775808≤t.1∧t.1≤9223372036854775807)∧Sl w 1 t.2.1 t.2.2.length (u8s t.2.2)∧Room t.2.1)∧cs=plC t:=by
 have ob:=DataW.trod_struct u124 h
 obtain⟨xs,m,_,hxe,hl,hlen,hf⟩:=ob
 have hl3:cs.length=2:=hl.trans ty124.cellsOf
 match xs,hlen with
 | [y0,y1],_=>
  have f0:=hf 0 _ rfl
  have f1:=hf 1 _ rfl
  have ob:=trod_int1 (f0.trans rfl)
  obtain⟨n,hn,h0⟩:=ob
  have ob:=trod_bytes (f1.trans rfl)
  obtain⟨vb,b,hb,hbs,hbr,hbl⟩:=ob
  replace h0:(cs.drop 0).take (Tryz.prog.cellsOf 3)=[.int .i64 n]:=h0
  replace hb:(cs.drop 1).take (Tryz.prog.cellsOf 76)=[vb]:=hb
  rw[ty3.cellsOf] at h0
  rw[ty76.cellsOf] at hb
  refine⟨⟨n,vb,b⟩,⟨hn,hbs,hbr⟩,?_⟩
  match cs,hl3 with
  | [a,c],_=>
   have e0:a=.int .i64 n:=by simpa using h0
   have e1:c=vb:=by simpa using hb
   rw[e0,e1];rfl
theorem flat1{α:Type} (c:α→Value) (l:List α):(l.flatMap fun t=>[c t])=l.map c:=by
 induction l with
 | nil=>rfl
 | cons x l ih=>rw[flatMap_cons,ih];rfl
theorem trod_setup{fuel:Nat}{cs:List Value}{x:DataW H×List MemPlace} (h:DataW.trod enc Tryz.prog w base spare held fuel 28 cs=some x) (hN:Rows.uptoBulk x.1≤1048576):∃y:Stup,y.Ok w∧cs=y.cells:=by
 have ob:=DataW.trod_struct u28 h
 obtain⟨xs,m,_,hxe,hl,hlen,hf⟩:=ob
 have hl6:cs.length=6:=hl.trans ty28.cellsOf
 match xs,hlen,hxe with
 | [y0,y1,y2,y3,y4,y5],_,hxe=>
  rw[hxe] at hN
  simp only[map_cons,map_nil,Rows.uptoBulk,Rows.uptoBulkAll] at hN
  have ob:=trod_int1 ((hf 0 _ rfl).trans rfl)
  obtain⟨n,hn,h0⟩:=ob
  have ob:=open_many (enc:=enc) (w:=w) (base:=base) (spare:=spare) (held:=held) (N:=1048576) (c:=fun t:Value×List It=>[t.1]) (Ok:=fun t=>Its w t.1 t.2∧Room t.1∧∀y∈t.2,y.p.length≤1048576) u22 ty65.cellsOf (by decide) (fun _ _=>rfl)
  obtain⟨vT,T,hT,sT,oT,-,-⟩:=ob
   (fun h hN=>by
    have ob:=open_many (enc:=enc) (w:=w) (base:=base) (spare:=spare) (held:=held) (N:=1048576) (c:=fun x:It=>itC x.p x.d x.v) (Ok:=fun y=>y.Ok w∧y.p.length≤1048576) u65 ty155.cellsOf (by decide) (fun _ _=>rfl) (fun h hN=>trod_it h hN) h hN
    obtain⟨v,l,hc,hs,ho,hr,hl⟩:=ob
    exact⟨(v,l),⟨⟨hs,fun x hx=>(ho x hx).1,hl⟩,hr,fun x hx=>(ho x hx).2⟩,hc⟩) ((hf 1 _ rfl).trans rfl) (by omega)
  have ob:=open_many (enc:=enc) (w:=w) (base:=base) (spare:=spare) (held:=held) (N:=1048576) (c:=fun t:Value×List Ent=>[t.1]) (Ok:=fun t=>Es w t.1 t.2∧Room t.1) u23 ty116.cellsOf (by decide) (fun _ _=>rfl)
  obtain⟨vN,K,hK,sK,oK,-,-⟩:=ob
   (fun h hN=>by
    have ob:=open_many (enc:=enc) (w:=w) (base:=base) (spare:=spare) (held:=held) (N:=1048576) (c:=Ent.cells) (Ok:=Ent.ok) u116 ty115.cellsOf (by decide) (fun _ h=>Ent.cells_len h) (fun h _=>trod_ent h) h hN
    obtain⟨v,l,hc,hs,ho,hr,hl⟩:=ob
    exact⟨(v,l),⟨⟨hs,ho,hl⟩,hr⟩,hc⟩) ((hf 2 _ rfl).trans rfl) (by omega)
  have ob:=open_many (enc:=enc) (w:=w) (base:=base) (spare:=spare) (held:=held) (N:=1048576) (c:=fun t:Value×List UInt8=>[t.1]) (Ok:=fun t=>Sl w 1 t.1 t.2.length (u8s t.2)∧Room t.1) u24 ty76.cellsOf (by decide) (fun _ _=>rfl)
  obtain⟨vB,B,hB,sB,oB,-,-⟩:=ob
   (fun h hN=>by
    have ob:=trod_bytes h
    obtain⟨v,b,hc,hs,hr,hl⟩:=ob
    exact⟨(v,b),⟨hs,hr⟩,hc⟩) ((hf 3 _ rfl).trans rfl) (by omega)
  have ob:=open_many (enc:=enc) (w:=w) (base:=base) (spare:=spare) (held:=held) (N:=1048576) (c:=fun z:Int=>[.int .i64 z]) (Ok:=i64s) u25 ty3.cellsOf (by decide) (fun _ _=>rfl) (fun h _=>trod_int1 h) ((hf 4 _ rfl).trans rfl) (by omega)
  obtain⟨vE,E,hE,sE,oE,-,-⟩:=ob
  have ob:=open_many (enc:=enc) (w:=w) (base:=base) (spare:=spare) (held:=held) (N:=1048576) (c:=plC) (Ok:=fun t=>(-9223372036854775808≤t.1∧t.1≤9223372036854775807)∧Sl w 1 t.2.1 t.2.2.length (u8s t.2.2)∧Room t.2.1) u26 ty124.cellsOf (by decide) (fun _ _=>rfl) (fun h _=>trod_plant h) ((hf 5 _ rfl).trans rfl) (by omega)
  obtain⟨vP,P,hP,sP,oP,-,-⟩:=ob
  rw[flat1] at sT sK sB sE
  refine⟨⟨n,vT,T,vN,K,vB,B,vE,E,vP,P⟩,⟨hn,sT,fun t ht=>⟨(oT t ht).1,(oT t ht).2.1,fun y hy=>Nat.lt_of_le_of_lt ((oT t ht).2.2 y hy) (by decide)⟩,sK,oK,sB,oB,sE,oE,sP,oP⟩,?_⟩
  replace h0:(cs.drop 0).take (Tryz.prog.cellsOf 3)=[.int .i64 n]:=h0
  replace hT:(cs.drop 1).take (Tryz.prog.cellsOf 22)=[vT]:=hT
  replace hK:(cs.drop 2).take (Tryz.prog.cellsOf 23)=[vN]:=hK
  replace hB:(cs.drop 3).take (Tryz.prog.cellsOf 24)=[vB]:=hB
  replace hE:(cs.drop 4).take (Tryz.prog.cellsOf 25)=[vE]:=hE
  replace hP:(cs.drop 5).take (Tryz.prog.cellsOf 26)=[vP]:=hP
  rw[ty3.cellsOf] at h0
  rw[ty22.cellsOf] at hT
  rw[ty23.cellsOf] at hK
  rw[ty24.cellsOf] at hB
  rw[ty25.cellsOf] at hE
  rw[ty26.cellsOf] at hP
  match cs,hl6 with
  | [a0,a1,a2,a3,a4,a5],_=>
   have e0:a0=.int .i64 n:=by simpa using h0
   have e1:a1=vT:=by simpa using hT
   have e2:a2=vN:=by simpa using hK
   have e3:a3=vB:=by simpa using hB
   have e4:a4=vE:=by simpa using hE
   have e5:a5=vP:=by simpa using hP
   rw[e0,e1,e2,e3,e4,e5];rfl
theorem open_setup{v:Value}{d:DataW H}{ps:List MemPlace}{r:Reach}{b0:Nat} (hval:Value.okWide Tryz.prog w r b0 28 v) (h:DataW.Trod enc Tryz.prog w base spare held 28 v d ps):Rows.uptoBulk d≤1048576→∃x:Stup,v=.agg x.cells.toArray∧x.Ok w:=fun hN=>by
 obtain⟨fuel,h⟩:=h
 have ob:=trod_setup h hN
 obtain⟨x,hx,hc⟩:=ob
 refine⟨x,?_,hx⟩
 cases v with
 | agg cs=>
  have:cs.toList=x.cells:=hc
  rw[←this]
 | _=>exfalso;simp[Value.okWide,Cell.okWide] at hval
end
end Go.Gx
namespace Go.Gx
inductive Goes (P:(List UInt8)→List (List UInt8)):List (List UInt8)→List (List UInt8)→List (List UInt8)→List (List UInt8)→List (List UInt8)→Nat→Prop
 | nil (g o:List (List UInt8)):Goes P [] g o g o 0
 | skip{d:(List UInt8)}{ds g o g' o':List (List UInt8)}{k:Nat}:d∈g→Goes P ds g o g' o' k→Goes P (d::ds) g o g' o' (k+1)
 | go{d:(List UInt8)}{ds g o g1 o1 g' o':List (List UInt8)}{k1 k2:Nat}:d∉g→Goes P (P d) (g++[d]) o g1 o1 k1→Goes P ds g1 (o1++[d]) g' o' k2→Goes P (d::ds) g o g' o' (k1+k2+2)
section
variable{P:U8→List (List UInt8)}{ds g o g' o' U:List (List UInt8)}{k:Nat}
theorem Goes.ext (h:Goes P ds g o g' o' k):∃n t,g'=g++n∧o'=o++t∧t.Perm n:=by
 induction h with
 | nil g o=>exact⟨[],[],by simp,by simp,.refl _⟩
 | skip _ _ ih=>exact ih
 | @go d ds g o g1 o1 g' o' k1 k2 _ _ _ i1 i2=>
  obtain⟨n1,t1,rfl,rfl,p1⟩:=i1
  obtain⟨n2,t2,rfl,rfl,p2⟩:=i2
  refine⟨d::(n1++n2),t1++d::t2,by simp,by simp,?_⟩
  exact List.perm_middle.trans ((p1.append p2).cons d)
theorem Goes.keep (h:Goes P ds g o g' o' k):∀x∈g,x∈g':=fun x hx=>by
 have ob:=h.ext
 obtain⟨n,t,rfl,_⟩:=ob
 exact List.mem_append_left _ hx
theorem Goes.nodup (h:Goes P ds g o g' o' k):g.Nodup→g'.Nodup:=by
 induction h with
 | nil g o=>exact id
 | skip _ _ ih=>exact ih
 | @go d ds g o g1 o1 g' o' k1 k2 hd _ _ i1 i2=>
  refine fun hg=>i2 (i1 ?_)
  rw[List.nodup_append]
  refine⟨hg,List.nodup_cons.2 ⟨by simp,List.nodup_nil⟩,fun a ha b hb he=>?_⟩
  rw[List.mem_singleton] at hb
  exact hd (hb▸he▸ha)
theorem Goes.sub (hP:∀d∈U,∀x∈P d,x∈U) (h:Goes P ds g o g' o' k):(∀x∈ds,x∈U)→(∀x∈g,x∈U)→∀x∈g',x∈U:=by
 induction h with
 | nil g o=>exact fun _ hg=>hg
 | skip _ _ ih=>exact fun hd hg=>ih (fun x hx=>hd x (by simp[hx])) hg
 | @go d ds g o g1 o1 g' o' k1 k2 hd _ _ i1 i2=>
  intro hds hg
  have hdU:=hds d (by simp)
  refine i2 (fun x hx=>hds x (by simp[hx])) (i1 (hP d hdU) fun x hx=>?_)
  rcases List.mem_append.1 hx with hx | hx
  ·exact hg x hx
  ·rw[List.mem_singleton] at hx;exact hx▸hdU
def leftG (U g:List (List UInt8)):Nat:=(U.filter fun x=>decide (x∉g)).length
theorem leftG_mono{g1:List (List UInt8)} (h:∀x∈g,x∈g1):∀U,leftG U g1≤leftG U g
 | []=>Nat.le_refl _
 | x::U=>by
  have ih:=leftG_mono h U
  unfold leftG at ih⊢
  rw[List.filter_cons,List.filter_cons]
  by_cases h1:x∈g
  ·simpa[h1,h x h1] using ih
  ·by_cases h2:x∈g1
   ·simp[h1,h2];simp at ih;omega
   ·simp[h1,h2];simp at ih;omega
theorem leftG_lt{d:U8} (hd:d∉g):∀{U},d∈U→leftG U (g++[d])<leftG U g
 | [],h=>by cases h
 | x::U,h=>by
  have hm:=leftG_mono (g:=g) (g1:=g++[d]) (fun x hx=>by simp[hx]) U
  by_cases hx:x=d
  ·subst hx
   unfold leftG at hm⊢
   rw[List.filter_cons,List.filter_cons,if_neg (by simp),if_pos (by simp[hd]),List.length_cons]
   omega
  ·have ih:=leftG_lt hd (U:=U) (by
    rcases List.mem_cons.1 h with h | h
    ·exact absurd h.symm hx
    ·exact h)
   unfold leftG at ih⊢
   rw[List.filter_cons,List.filter_cons]
   by_cases h1:x∈g
   ·simpa[h1] using ih
   ·simp only[List.mem_append,List.mem_singleton,h1,hx,or_self,not_false_eq_true,decide_true,if_true,List.length_cons]
    simp only[List.mem_append,List.mem_singleton] at ih
    omega
theorem goes_all (hP:∀d∈U,∀x∈P d,x∈U):∀(n:Nat) (ds g o:List (List UInt8)),leftG U g≤n→(∀x∈ds,x∈U)→∃g' o' k,Goes P ds g o g' o' k
 | n,[],g,o,_,_=>⟨g,o,0,.nil g o⟩
 | n,d::ds,g,o,hn,hds=>by
  have hdU:=hds d (by simp)
  by_cases hd:d∈g
  ·have ob:=goes_all hP n ds g o hn fun x hx=>hds x (by simp[hx])
   obtain⟨g',o',k,h⟩:=ob
   exact⟨g',o',k+1,.skip hd h⟩
  ·have hlt:=leftG_lt hd hdU
   match n,hn with
   | 0,hn=>omega
   | n+1,hn=>
    have ob:=goes_all hP n (P d) (g++[d]) o (by omega) (hP d hdU)
    obtain⟨g1,o1,k1,h1⟩:=ob
    have hm:=leftG_mono h1.keep U
    have ob:=goes_all hP n ds g1 (o1++[d]) (by omega) fun x hx=>hds x (by simp[hx])
    obtain⟨g2,o2,k2,h2⟩:=ob
    exact⟨g2,o2,_,.go hd h1 h2⟩
termination_by n ds=>(n,ds.length)
theorem nodup_len:∀{g U:List (List UInt8)},g.Nodup→(∀x∈g,x∈U)→g.length≤U.length
 | [],_,_,_=>Nat.zero_le _
 | x::g,U,hn,hs=>by
  have h1:=nodup_len (g:=g) (U:=U.erase x) (List.nodup_cons.1 hn).2 fun y hy=>by
   have hne:y≠x:=fun h=>(List.nodup_cons.1 hn).1 (h▸hy)
   exact(List.mem_erase_of_ne hne).2 (hs y (by simp[hy]))
  have h2:=List.length_erase_of_mem (hs x (by simp))
  have h3:=List.length_pos_of_mem (hs x (by simp))
  rw[List.length_cons]
  omega
inductive Fin (P:(List UInt8)→List (List UInt8)) (gf of:List (List UInt8)):List ((List UInt8)×Nat)→List (List UInt8)→List (List UInt8)→Nat→Prop
 | nil:Fin P gf of [] gf of 0
 | cons{d:(List UInt8)}{n:Nat}{S:List ((List UInt8)×Nat)}{g o g1 o1:List (List UInt8)}{k K:Nat}:n≤(P d).length→Goes P ((P d).drop n) g o g1 o1 k→Fin P gf of S g1 (o1++[d]) K→Fin P gf of ((d,n)::S) g o (k+K+1)
theorem Fin.root{d:U8}{gf of:List (List UInt8)} (h:Goes P [d] [] [] gf of k):∃K,Fin P gf of [(d,0)] [d] [] K:=by
 cases h with
 | skip h _=>cases h
 | go _ h1 h2=>
  cases h2
  exact⟨_,.cons (Nat.zero_le _) h1 .nil⟩
theorem Fin.done{d:U8}{n K:Nat}{S:List (List UInt8×Nat)}{gf of:List (List UInt8)} (h:Fin P gf of ((d,n)::S) g o K) (hn:n=(P d).length):∃K',K'<K∧Fin P gf of S g (o++[d]) K':=by
 cases h with
 | @cons _ _ _ _ _ g1 o1 k K' _ h1 h2=>
  rw[hn,List.drop_length] at h1
  cases h1
  exact⟨_,by omega,h2⟩
theorem Fin.step{d x:U8}{n K:Nat}{S:List (List UInt8×Nat)}{gf of:List (List UInt8)} (h:Fin P gf of ((d,n)::S) g o K) (hx:(P d)[n]?=some x) :
  ∃K',K'<K∧if x∈g then Fin P gf of ((d,n+1)::S) g o K' else Fin P gf of ((x,0)::(d,n+1)::S) (g++[x]) o K':=by
 cases h with
 | @cons _ _ _ _ _ g1 o1 k K' hn h1 h2=>
  have ob:=List.getElem?_eq_some_iff.1 hx
  obtain⟨hlt,rfl⟩:=ob
  rw[List.drop_eq_getElem_cons hlt] at h1
  cases h1 with
  | @skip _ _ _ _ _ _ k hm h1=>exact⟨k+K'+1,by omega,by rw[if_pos hm];exact .cons hlt h1 h2⟩
  | @go _ _ _ _ g3 o3 _ _ k1 k2 hm h1 h3=>exact⟨k1+(k2+K'+1)+1,by omega,by rw[if_neg hm];exact .cons (Nat.zero_le _) h1 (.cons hlt h3 h2)⟩
theorem Fin.le{d:U8}{n K:Nat}{S:List (List UInt8×Nat)}{gf of:List (List UInt8)} (h:Fin P gf of ((d,n)::S) g o K):n≤(P d).length:=by
 cases h with
 | cons hn _ _=>exact hn
end
end Go.Gx
namespace Go.Gx
open Go.Proofs List
section
variable{ops:Array Oper}{n:Nat}{rest:List Oper}{f:Slots}{ds:List Deferred}{w w0:World}{S:List Nat}{L:OL}{Q:Post}{ty:TypeId}{pos:String}{af:Array Edge}{x y k:Operand}{T E:TypeId}
theorem WL.mapIns{M:List (List UInt8×Value×Nat)}{d:U8}{r clock:Nat}{v:Value} (ht:Tryz.prog.underlying T=some (.map 44 E)) (hx:ev f x=.map (some r)) (hk:ev f k=.agg (u8s d).toArray) (hy:ev f y=v)
  (hM:Keys32 M) (hd:d.length=32) (hs:Step S ((r,mapObj M clock)::L) w0 w) (h:∀w',Step S ((r,mapObj (putM d v clock M) (putC d clock M))::L) w0 w'→WL Tryz.prog ops Q n rest f ds w') :
  WL Tryz.prog ops Q n (⟨none,.insert T x k y,ty,pos,af,none⟩::rest) f ds w:=by
 refine WL.skip ?_ (h _ (hs.setO _))
 have h1:=run_putD (v:=v) ht hM hd hs.hd
 simp only[execOp,hx,hk,hy,Sem.run_bind,h1,Result.andThen_ok]
 rfl
end
structure SetD (M:DM) (g:List (List UInt8)):Prop where
 keys:Keys32 M
 val:∀d,valD d M=if d∈g then some (.agg #[]) else none
theorem SetD.nil:SetD [] []:=⟨(fun p hp=>by cases hp),fun d=>by rw[valD_nil];simp⟩
theorem SetD.look{M:DM}{g:List (List UInt8)} (h:SetD M g) (d:U8):((findD d M 0).map (·.2)).getD (.agg #[])=.agg #[]∧(findD d M 0).isSome=decide (d∈g):=by
 have h1:=h.val d
 constructor
 ·show(valD d M).getD _=_
  rw[h1];split <;> rfl
 ·rw[valD_isSome,h1];by_cases hd:d∈g <;> simp[hd]
theorem SetD.put{M:DM}{g:List (List UInt8)}{d:U8} (h:SetD M g) (hd:d.length=32) (c:Nat):SetD (putM d (.agg #[]) c M) (g++[d]):=⟨h.keys.put hd _ c,fun e=>by
 rw[valD_put]
 by_cases he:e=d
 ·subst he;simp
 ·rw[if_neg he,h.val]
  simp[he]⟩
def plC8 (x:(List UInt8)×Nat):List Value:=u8s x.1++[.int .i64 (x.2:Nat)]
theorem plC8_len{x:List UInt8×Nat} (h:x.1.length=32):(plC8 x).length=33:=by simp[plC8,u8s,h]
theorem plC8_c1 (x:List UInt8×Nat):Cells1 (plC8 x):=(Cells1.u8s _).append (Cells1.of_all rfl)
theorem bld_pl32 (a0 a1 a2 a3 a4 a5 a6 a7 a8 a9 a10 a11 a12 a13 a14 a15 a16 a17 a18 a19 a20 a21 a22 a23 a24 a25 a26 a27 a28 a29 a30 a31:UInt8) (z:Int) (w:World):(Instr.build 220 #[(0,.agg (u8s [a0,a1,a2,a3,a4,a5,a6,a7,a8,a9,a10,a11,a12,a13,a14,a15,a16,a17,a18,a19,a20,a21,a22,a23,a24,a25,a26,a27,a28,a29,a30,a31]).toArray),(1,.int .i64 z)]).run Tryz.prog w=.ok (.agg (u8s [a0,a1,a2,a3,a4,a5,a6,a7,a8,a9,a10,a11,a12,a13,a14,a15,a16,a17,a18,a19,a20,a21,a22,a23,a24,a25,a26,a27,a28,a29,a30,a31]++[Value.int .i64 z]).toArray) w:=by kernel_rfl
theorem bld_pl{d:U8} (hd:d.length=32) (n:Nat) (w:World):(Instr.build 220 #[(0,.agg (u8s d).toArray),(1,.int .i64 (n:Nat))]).run Tryz.prog w=.ok (.agg (plC8 (d,n)).toArray) w:=by
 have ob:=cells32 hd
 obtain⟨a0,a1,a2,a3,a4,a5,a6,a7,a8,a9,a10,a11,a12,a13,a14,a15,a16,a17,a18,a19,a20,a21,a22,a23,a24,a25,a26,a27,a28,a29,a30,a31,rfl⟩:=ob
 exact bld_pl32 a0 a1 a2 a3 a4 a5 a6 a7 a8 a9 a10 a11 a12 a13 a14 a15 a16 a17 a18 a19 a20 a21 a22 a23 a24 a25 a26 a27 a28 a29 a30 a31 n w
theorem bld_p032 (a0 a1 a2 a3 a4 a5 a6 a7 a8 a9 a10 a11 a12 a13 a14 a15 a16 a17 a18 a19 a20 a21 a22 a23 a24 a25 a26 a27 a28 a29 a30 a31:UInt8) (w:World):(Instr.build 220 #[(0,.agg (u8s [a0,a1,a2,a3,a4,a5,a6,a7,a8,a9,a10,a11,a12,a13,a14,a15,a16,a17,a18,a19,a20,a21,a22,a23,a24,a25,a26,a27,a28,a29,a30,a31]).toArray)]).run Tryz.prog w=.ok (.agg (u8s [a0,a1,a2,a3,a4,a5,a6,a7,a8,a9,a10,a11,a12,a13,a14,a15,a16,a17,a18,a19,a20,a21,a22,a23,a24,a25,a26,a27,a28,a29,a30,a31]++[Value.int .i64 0]).toArray) w:=by kernel_rfl
theorem bld_p0{d:U8} (hd:d.length=32) (w:World):(Instr.build 220 #[(0,.agg (u8s d).toArray)]).run Tryz.prog w=.ok (.agg (plC8 (d,0)).toArray) w:=by
 have ob:=cells32 hd
 obtain⟨a0,a1,a2,a3,a4,a5,a6,a7,a8,a9,a10,a11,a12,a13,a14,a15,a16,a17,a18,a19,a20,a21,a22,a23,a24,a25,a26,a27,a28,a29,a30,a31,rfl⟩:=ob
 exact bld_p032 a0 a1 a2 a3 a4 a5 a6 a7 a8 a9 a10 a11 a12 a13 a14 a15 a16 a17 a18 a19 a20 a21 a22 a23 a24 a25 a26 a27 a28 a29 a30 a31 w
theorem bld_none (w:World):(Instr.build 142 #[]).run Tryz.prog w=.ok (.agg #[]) w:=by kernel_rfl
theorem zNone (w:World):(zeroValue 142).run Tryz.prog w=.ok (.agg #[]) w:=by kernel_rfl
theorem zDigs (w:World):(zeroValue 35).run Tryz.prog w=.ok (.slice none 0 0) w:=by kernel_rfl
def partsM (s:AS) (m:List ((List UInt8)×Bool)) (d:(List UInt8)):List (List UInt8):=if (d,true)∈m then partsD s d else []
end Go.Gx
namespace Go.Gx
open Go.Proofs List
attribute [local irreducible] shaL cutD frontL
theorem OwnSl.slH{E sz:Nat}{v:Value}{k:Nat}{xs:List Value}{Lv:OL}{w:World} (h:OwnSl E sz v k xs Lv) (hw:∀p∈Lv,w.heap[p.1]?=some p.2):Sl w sz v k xs:=by
 obtain⟨hl,⟨rfl,rfl,rfl⟩ | ⟨b,cap,more,rfl,rfl,hc⟩⟩:=h
 ·exact⟨hl,.inl ⟨none,0,rfl,rfl⟩⟩
 ·exact .mk hl (At.of_blk (hw (b,blk E (xs++more)) (by simp))).left
section
variable{S:List Nat}{a b c q:Nat×Obj}{T Lo X:OL}{w w':World}
theorem Step.bIn (h:Step S (a::b::(T++(q::Lo))) w w'):Step S (Lo++(a::b::q::T)) w w':=h.perm (by classical exact perm_iff_count.2 fun x=>by simp only[count_append,count_cons];omega)
theorem Step.bOut (h:Step S (Lo++(a::b::q::T)) w w'):Step S (T++(q::Lo)) w w':=Step.tail (p:=b) (Step.tail (p:=a) (h.perm (by classical exact perm_iff_count.2 fun x=>by simp only[count_append,count_cons];omega)))
theorem Step.bT (h:Step S (a::b::(T++X)) w w'):Step S (T++(a::b::X)) w w':=h.perm (perm_append_comm_assoc [a,b] T X)
theorem Step.bU (h:Step S (T++(a::b::X)) w w'):Step S (a::b::(T++X)) w w':=h.perm (perm_append_comm_assoc T [a,b] X)
theorem Step.bQ (h:Step S (a::b::c::(T++(q::Lo))) w w'):Step S (q::a::b::c::(T++Lo)) w w':=h.perm (by classical exact perm_iff_count.2 fun x=>by simp only[count_append,count_cons];omega)
theorem Step.bR (h:Step S (q::a::b::c::(T++Lo)) w w'):Step S (T++(q::a::b::c::Lo)) w w':=h.perm (by classical exact perm_iff_count.2 fun x=>by simp only[count_append,count_cons];omega)
theorem Step.bS (h:Step S (T++(q::a::b::c::Lo)) w w'):Step S (T++(q::Lo)) w w':=Step.tail (p:=c) (Step.tail (p:=b) (Step.tail (p:=a) (h.perm (by classical exact perm_iff_count.2 fun x=>by simp only[count_append,count_cons];omega))))
theorem Step.bW (h:Step S (a::b::c::(T++X)) w w'):Step S (T++X) w w':=h.tail.tail.tail
end
theorem Fin.nil_inv{P:U8→List (List UInt8)}{gf of g o:List (List UInt8)}{K:Nat} (h:Fin P gf of [] g o K):o=of:=by cases h;rfl
theorem MapP.parts{s:AS}{D:OL}{m:List (List UInt8×Bool)}{M:DM}{w0:World} (h:MapP s D m M) (hw:∀p∈D,w0.heap[p.1]?=some p.2) (d:U8) :
  ∃v,((findD d M 0).map (·.2)).getD (.slice none 0 0)=v∧Sl w0 32 v (partsM s m d).length (digsL (partsM s m d)):=by
 have h1:=h.val d
 cases hv:valD d M with
 | none=>
  rw[hv] at h1
  refine⟨.slice none 0 0,?_,?_⟩
  ·show(valD d M).getD _=_
   rw[hv];rfl
  ·rw[partsM,if_neg h1];exact Sl.nil _ _ _
 | some u=>
  rw[hv] at h1
  obtain⟨h2,Lv,h3,h4⟩:=h1
  refine⟨u,?_,?_⟩
  ·show(valD d M).getD _=_
   rw[hv];rfl
  ·rw[partsM,if_pos h2];exact h3.slH fun p hp=>hw p (h4 p hp)
section
variable{bm:Nat}{s:AS}{m:List (List UInt8×Bool)}{D W:OL}{w0:World}{r:U8}{gf of:List (List UInt8)}{k:Nat}
set_option maxHeartbeats 4000000 in
theorem behind_spec (hM:MetRep bm s m D W) (hw:Lives (W++D) w0) (h32:∀d∈ordM m,d.length=32) (hPU:∀d∈ordM m,∀x∈partsM s m d,x∈ordM m) (hpl:∀d,(partsM s m d).length<1000000000) (hml:m.length≤65536) (hr:(ordM m)[0]?=some r) (hG:Goes (partsM s m) [r] [] [] gf of k) :
  CP 70 #[pt bm] w0 fun e w'=>∃v Lv,e=.returned v∧OwnSl 44 32 v of.length (digsL of) Lv∧Step [] Lv w0 w':=by
 obtain⟨vO,LO,q1,M1,c1,q2,M2,c2,rfl,hO,hB,hPm⟩:=hM
 have hol:=ordM_len m
 have hrU:=mem_of_getElem? hr
 have hr32:=h32 r hrU
 have hrl:(u8s r).length=32:=by rw[u8s,length_map,hr32]
 have h0:0<(ordM m).length:=(List.getElem?_eq_some_iff.1 hr).1
 have ob:=hO.some1 h0
 obtain⟨bo,co,more,ho1,ho2,ho3⟩:=ob
 subst ho1
 subst ho2
 have hs:Step [] [] w0 w0:=Step.refl w0
 have hatM:∀{w},Step [] [] w0 w→At w bm 0 [.slice (some ⟨bo,0,none⟩) (ordM m).length co,.map (some q1),.map (some q2)]:=fun h=>At.of_blk (h.old (hw.has (bm,blk 132 [.slice (some ⟨bo,0,none⟩) (ordM m).length co,.map (some q1),.map (some q2)]) (by simp)) (by simp))
 have hroot:∀{w},Step [] [] w0 w→At w bo (0+0*32) (u8s r):=fun h=>digsL_at h32 (At.of_blk (h.old (hw.has (bo,blk 44 (digsL (ordM m)++more)) (by simp)) (by simp))).left hr
 have hq2:∀{w},Step [] [] w0 w→w.heap[q2]?=some (mapObj M2 c2):=fun h=>h.old (hw.has (q2,mapObj M2 c2) (by simp)) (by simp)
 have hparts:=hPm.parts fun p hp=>hw.has p (by simp[hp])
 have ob:=Fin.root hG
 obtain⟨K0,hF0⟩:=ob
 refine calls (n:=79) Tryz.func70 rfl rfl rfl ?_
 refine sr<|wA<|wZ<|sr<|wA<|wZ<|sr<|WL.alloc ty217 rfl hs (fun b4 w hs=>?_)
 refine wZ ?_
 have hS0:Stk 217 220 33 b4 [] [(b4,blk 217 [.slice none 0 0])]:=⟨(fun c hc=>by cases hc),_,[],rfl,OwnSl.nil _ _⟩
 refine sr<|WL.makeMapD rfl hs (fun b12 w hs=>?_)
 refine wm<|wn rfl<|wF 0 u132 rfl ty35 rfl<|wl ty35 rfl ((hatM hs.clear).cell (j:=0) rfl)<|wV (run_ixSlN (i:=0) u35 ty44 rfl rfl (by omega))<|wR ty44 rfl hrl (hroot hs.clear)<|wV (run_build rfl (bld_none _))<|WL.mapIns u141 rfl rfl rfl SetD.nil.keys hr32 hs (fun w hs=>?_)
 refine wm<|wA<|wZ<|sr<|wm<|wn rfl<|wF 0 u132 rfl ty35 rfl<|wl ty35 rfl ((hatM hs.clear).cell (j:=0) rfl)<|wV (run_ixSlN (i:=0) u35 ty44 rfl rfl (by omega))<|wR ty44 rfl hrl (hroot hs.clear)<|wV (run_build rfl (bld_p0 hr32 _))<|wE rfl (run_call en118 rfl rfl) (pushplace_spec (c:=plC8 (r,0)) hS0 (plC8_len hr32) (plC8_c1 _) (by simp) (Lives.of (L1:=[_]) hs.swap)) ?_
 rintro e w ⟨T1,rfl,hS1,hq⟩
 refine⟨_,rfl,?_⟩
 replace hs:=Step.call (L1:=[_]) hs.swap hq
 refine wZ ?_
 have hSet0:SetD (putM r (.agg #[]) 0 []) [r]:=SetD.nil.put hr32 0
 refine cB<|CW.loop (fun z f w'=>∃S g o T Mg cg vo Lo,Fin (partsM s m) gf of S g o z∧(∀x∈S,x.1∈ordM m)∧S.length+o.length≤g.length∧g.Nodup∧(∀x∈g,x∈ordM m)∧SetD Mg g∧Stk 217 220 33 b4 (S.map plC8) T∧OwnSl 44 32 vo o.length (digsL o) Lo∧Step [] (T++((b12,mapObj Mg cg)::Lo)) w0 w'∧Holds f [(0,pt bm),(3,vo),(4,pt b4),(5,.map (some b12))]) (m:=K0) ?_ ?_
 ·exact⟨[(r,0)],[r],[],T1,_,_,_,[],hF0,fun x hx=>by obtain rfl:=mem_singleton.1 hx;exact hrU,by simp,by simp,fun x hx=>by obtain rfl:=mem_singleton.1 hx;exact hrU,hSet0,hS1,OwnSl.nil _ _,hs,rfl,rfl,rfl,rfl,trivial⟩
 clear hs hS1 hSet0
 rintro z f w ⟨S,g,o,T,Mg,cg,vo,Lo,hF,hSU,hlen,hnd,hgU,hSet,hS,ho,hs,hf⟩
 have ob:=hf.chain
 obtain⟨gg,rfl⟩:=ob
 have hgl:=nodup_len hnd hgU
 cases S with
 | nil=>
  have hof:=hF.nil_inv
  refine cB<|sr<|wE rfl (run_call en119 rfl rfl) (popplace_nil hS (Lives.of (L1:=T) hs)) ?_
  rintro e w ⟨zz,rfl,hz,hz1,hq⟩
  refine⟨_,rfl,?_⟩
  replace hs:=hs.callE hq
  refine wm<|wx rfl rfl<|wx rfl rfl<|WL.alloc ty220 rfl hs (fun b6 w hs=>?_)
  refine WL.storeAll ty220 rfl rfl ((hz)) ((hz1)) hs (by rfl) (fun w hs=>?_)
  refine wA<|wZ<|cq<|sr<|wm<|wN rfl<|wZ<|CW.cond rfl (fun h=>?_) (fun h=>?_)
  ·refine sr<|wm<|wA<|wZ<|CW.ret ?_
   refine fin_ret1 rfl ?_
   exact⟨_,Lo,rfl,by rw[←hof];exact ho,Step.tail (Step.dropL (L1:=T) hs.tail)⟩
  ·cases h
 | cons x S'=>
  obtain⟨d,n⟩:=x
  have hdU:d∈ordM m:=hSU (d,n) (by simp)
  have hd32:=h32 d hdU
  have hdl:(u8s d).length=32:=by rw[u8s,length_map,hd32]
  have hcl:=plC8_len (x:=(d,n)) hd32
  have hcn:(plC8 (d,n))[32]?=some (.int .i64 (n:Nat)):=by show(u8s d++[Value.int .i64 (n:Nat)])[32]?=_;rw[getElem?_append_right (by omega),hdl];rfl
  have hnle:=hF.le
  have hpd:=hpl d
  rw[length_cons] at hlen
  have hSU':∀x∈S',x.1∈ordM m:=fun x hx=>hSU x (by simp[hx])
  have ob:=hparts d
  obtain⟨vp,hvp,hvs⟩:=ob
  have ob:=hvs.form
  obtain⟨pa,pc,rfl⟩:=ob
  refine cB<|sr<|wE rfl (run_call en119 rfl rfl) (popplace_spec (c:=plC8 (d,n)) (l:=S'.map plC8) hS (by rw[length_map];omega) (Lives.of (L1:=T) hs)) ?_
  rintro e w ⟨T2,rfl,hS2,hq⟩
  refine⟨_,rfl,?_⟩
  replace hs:=Step.call (L1:=T) hs hq
  refine wm<|wx rfl rfl<|wx rfl rfl<|WL.alloc ty220 rfl hs (fun b6 w hs=>?_)
  refine WL.storeAll ty220 rfl rfl ((hcl)) ((plC8_c1 _)) hs (by rfl) (fun w hs=>?_)
  refine wA<|wZ<|cq<|sr<|wm<|wN rfl<|wZ<|CW.cond rfl (fun h=>?_) (fun h=>?_)
  ·cases h
  refine ck<|cq<|CW.quiet mixedP (by kernel_rfl) hs ?_
  refine qm<|qn rfl<|qF 2 u132 rfl ty130 rfl<|qL ty130 rfl (fun w hs=>(hatM hs.clear).cell (j:=2) rfl)<|qF 0 u220 rfl ty44 rfl<|qV (fun w hs=>run_loadN ty44 rfl hdl hs.a0.left)<|qV (fun w hs=>run_lookupV u130 (zDigs _) hPm.keys hd32 hvp rfl rfl (hq2 hs.clear))<|qA<|QL.nil (fun w hs=>?_)
  by_cases hn:n=(partsM s m d).length
  ·have ob:=hF.done hn
   obtain⟨K',hK,hF2⟩:=ob
   refine cq<|sr<|wF 32 u220 rfl ty3 rfl<|wl ty3 rfl (hs.c0 hcn)<|wm<|wL u35 rfl<|eT<|wZ<|CW.cond rfl (fun h=>?_) (fun h=>?_)
   ·refine sr<|wm<|wF 0 u220 rfl ty44 rfl<|wR ty44 rfl hdl hs.a0.left<|WL.buildSlice (cs:=u8s d) u35 ty44 rfl (by decide) rfl (filled1 hdl rfl) rfl hs (fun b51 w hs=>?_)
    have hsl51:Sl w 32 (.slice (some ⟨b51,0,none⟩) 1 1) 1 (u8s d):=.own1 hs (by rw[hdl])
    replace hs:=Step.bIn hs
    refine WL.append u35 u35 ty44 rfl (by decide) rfl rfl (ho) (hs) (hsl51) (Cells1.u8s _) (by omega) rfl (fun v52 Lv52 w hv52 hs=>?_)
    replace hs:=Step.bOut hs
    refine wA<|wZ ?_
    have ho2:OwnSl 44 32 v52 (o++[d]).length (digsL (o++[d])) Lv52:=by rw[length_append,digsL_snoc];exact hv52
    refine CW.exit<|(show _∧_ from⟨rfl,_,?_,S',g,o++[d],T2,Mg,cg,v52,Lv52,hF2,hSU',?_,hnd,hgU,hSet,hS2,ho2,hs,rfl,rfl,rfl,rfl,trivial⟩)
    ·exact hK
    ·rw[length_append,length_singleton];omega
   ·cases h
  ·have hnlt:n<(partsM s m d).length:=by omega
   have ob:∃x,(partsM s m d)[n]?=some x:=⟨_,getElem?_eq_getElem hnlt⟩
   obtain⟨x,hx⟩:=ob
   have hxU:=hPU d hdU x (mem_of_getElem? hx)
   have hx32:=h32 x hxU
   have hxl:(u8s x).length=32:=by rw[u8s,length_map,hx32]
   obtain⟨pb,po,pc2,hpe,hpat⟩:∃pb po pc2,Value.slice pa (partsM s m d).length pc=.slice (some ⟨pb,po,none⟩) (partsM s m d).length pc2∧At w0 pb po (digsL (partsM s m d)):=by
    obtain⟨_,⟨a,cc,h1,h2⟩ | ⟨b,off,cc,h1,h2⟩⟩:=hvs
    ·omega
    ·exact⟨b,off,cc,h1,h2⟩
   cases hpe
   have hxat:∀{w},Step [] [] w0 w→At w pb (po+n*32) (u8s x):=fun h=>digsL_at (fun y hy=>h32 y (hPU d hdU y hy)) (hpat.step h (by simp)) hx
   have ob:=hF.step hx
   obtain⟨K',hK,hF2⟩:=ob
   refine cq<|sr<|wF 32 u220 rfl ty3 rfl<|wl ty3 rfl (hs.c0 hcn)<|wm<|wL u35 rfl<|eF<|wZ<|CW.cond rfl (fun h=>?_) (fun h=>?_)
   ·cases h
   refine ck<|sr<|wm<|wF 32 u220 rfl ty3 rfl<|wl ty3 rfl (hs.c0 hcn)<|wI u35 ty44 rfl rfl<|wR ty44 rfl hxl (hxat hs.clear)<|WL.alloc ty44 rfl hs (fun b9 w hs=>?_)
   refine WL.storeAll ty44 rfl rfl ((hxl)) ((Cells1.u8s _)) hs (by rfl) (fun w hs=>?_)
   refine wZ<|sr<|wF 0 u220 rfl ty44 rfl<|wR ty44 rfl hdl hs.a1.left<|wF 32 u220 rfl ty3 rfl<|wl ty3 rfl (hs.c1 hcn)<|wP ((n+1:Nat):Int)<|wV (run_build rfl (bld_pl hd32 _ _))<|wE rfl (run_call en118 rfl rfl) (pushplace_spec (c:=plC8 (d,n+1)) hS2 (plC8_len hd32) (plC8_c1 _) (by rw[length_map];omega) (Lives.of (L1:=T2) (Step.bT hs))) ?_
   rintro e w ⟨T3,rfl,hS3,hq⟩
   refine⟨_,rfl,?_⟩
   replace hs:=Step.bU (Step.call (L1:=T2) (Step.bT hs) hq)
   refine wZ ?_
   have ob:=hSet.look x
   obtain⟨hl1,hl2⟩:=ob
   by_cases hxg:x∈g
   ·rw[if_pos hxg] at hF2
    rw[decide_eq_true hxg] at hl2
    refine sr<|wm<|wR ty44 rfl hxl hs.a0<|wV (run_lookupE u141 (zNone _) hSet.keys hx32 hl1 hl2 rfl rfl (hs.has (b12,mapObj Mg cg) (by simp)))<|wm<|wx rfl rfl<|wx rfl rfl<|WL.alloc ty142 rfl hs (fun b10 w hs=>?_)
    refine WL.storeAll ty142 rfl rfl ((by rfl)) ((Cells1.of_all rfl)) hs (by rfl) (fun w hs=>?_)
    refine wA<|wZ<|sr<|wm<|wN rfl<|wZ<|CW.cond rfl (fun h=>?_) (fun h=>?_)
    ·cases h
    replace hs:=Step.bW hs
    refine ck<|(show _∧_ from⟨rfl,_,?_,(d,n+1)::S',g,o,T3,Mg,cg,vo,Lo,hF2,?_,?_,hnd,hgU,hSet,hS3,ho,hs,rfl,rfl,rfl,rfl,trivial⟩)
    ·exact hK
    ·intro y hy
     rcases mem_cons.1 hy with rfl | hy
     ·exact hdU
     ·exact hSU' y hy
    ·exact hlen
   ·rw[if_neg hxg] at hF2
    rw[decide_eq_false hxg] at hl2
    refine sr<|wm<|wR ty44 rfl hxl hs.a0<|wV (run_lookupE u141 (zNone _) hSet.keys hx32 hl1 hl2 rfl rfl (hs.has (b12,mapObj Mg cg) (by simp)))<|wm<|wx rfl rfl<|wx rfl rfl<|WL.alloc ty142 rfl hs (fun b10 w hs=>?_)
    refine WL.storeAll ty142 rfl rfl ((by rfl)) ((Cells1.of_all rfl)) hs (by rfl) (fun w hs=>?_)
    refine wA<|wZ<|sr<|wm<|wN rfl<|wZ<|CW.cond rfl (fun h=>?_) (fun h=>?_)
    ·replace hs:=Step.bQ hs
     refine sr<|wm<|wR ty44 rfl hxl hs.a2<|wV (run_build rfl (bld_none _))<|WL.mapPut u141 rfl rfl rfl hSet.keys hx32 hs (fun w hs=>?_)
     refine wZ ?_
     replace hs:=Step.bR hs
     refine cr<|wR ty44 rfl hxl (At.of_blk (hs.has (b9,blk 44 (u8s x)) (by simp)))<|wV (run_build rfl (bld_p0 hx32 _))<|wE rfl (run_call en118 rfl rfl) (pushplace_spec (c:=plC8 (x,0)) hS3 (plC8_len hx32) (plC8_c1 _) (by rw[length_cons,length_map];omega) (Lives.of (L1:=T3) hs)) ?_
     rintro e w ⟨T4,rfl,hS4,hq⟩
     refine⟨_,rfl,?_⟩
     replace hs:=Step.bS (Step.call (L1:=T3) hs hq)
     refine wZ<|(show _∧_ from⟨rfl,_,?_,(x,0)::(d,n+1)::S',g++[x],o,T4,_,_,vo,Lo,hF2,?_,?_,?_,?_,hSet.put hx32 cg,hS4,ho,hs,rfl,rfl,rfl,rfl,trivial⟩)
     ·exact hK
     ·intro y hy
      rcases mem_cons.1 hy with rfl | hy
      ·exact hxU
      ·rcases mem_cons.1 hy with rfl | hy
       ·exact hdU
       ·exact hSU' y hy
     ·rw[length_append,length_singleton,length_cons,length_cons];omega
     ·rw[nodup_append]
      refine⟨hnd,nodup_cons.2 ⟨by simp,nodup_nil⟩,fun a ha b hb he=>?_⟩
      rw[mem_singleton] at hb
      exact hxg (hb▸he▸ha)
     ·intro y hy
      rcases mem_append.1 hy with hy | hy
      ·exact hgU y hy
      ·rw[mem_singleton] at hy;exact hy▸hxU
    ·cases h
end
def Cov (s:AS) (t t':WS):Prop:=∃n,t'.m=t.m++n∧∀p∈n,(s.get p.1).2=0∧(p.2=true→decE (s.get p.1).1=0∧∀x∈partsD s p.1,x∈t'.m.map (·.1))
section
variable{s:AS}{rm:Rm}{t u v:WS}
theorem Cov.refl (t:WS):Cov s t t:=⟨[],by simp,fun p hp=>by cases hp⟩
theorem Cov.trans (h:Cov s t u) (k:Cov s u v):Cov s t v:=by
 obtain⟨n,h1,h2⟩:=h
 obtain⟨l,k1,k2⟩:=k
 refine⟨n++l,by rw[k1,h1,append_assoc],fun p hp=>?_⟩
 rcases mem_append.1 hp with hp | hp
 ·have ob:=h2 p hp
  obtain⟨a,b⟩:=ob
  refine⟨a,fun hd=>⟨(b hd).1,fun x hx=>?_⟩⟩
  have:=(b hd).2 x hx
  rw[k1,map_append]
  exact mem_append_left _ this
 ·exact k2 p hp
theorem Cov.mem (h:Cov s t u){d:U8} (hd:d∈t.m.map (·.1)):d∈u.m.map (·.1):=by
 obtain⟨n,h1,_⟩:=h
 rw[h1,map_append]
 exact mem_append_left _ hd
theorem seqS_cov{f:Std→WS→Int×WS}:∀{l:List Std}{t:WS},(∀x∈l,∀t,(f x t).1=0→Cov s t (f x t).2∧x.d∈(f x t).2.m.map (·.1))→(seqS f l t).1=0→Cov s t (seqS f l t).2∧∀x∈l,x.d∈(seqS f l t).2.m.map (·.1)
 | [],t,_,_=>⟨Cov.refl t,fun x hx=>by cases hx⟩
 | x::l,t,hf,he=>by
  rw[seqS] at he⊢
  by_cases c:(f x t).1≠0
  ·rw[if_pos c] at he;exact absurd he c
  ·rw[if_neg c] at he⊢
   have ob:=hf x (by simp) t (by simpa using c)
   obtain⟨h1,h2⟩:=ob
   have ob:=seqS_cov (fun y hy=>hf y (by simp[hy])) he
   obtain⟨h3,h4⟩:=ob
   refine⟨h1.trans h3,fun y hy=>?_⟩
   rcases mem_cons.1 hy with rfl | hy
   ·exact h3.mem h2
   ·exact h4 y hy
theorem standP_cov:∀(n:Nat){x:Std}{t:WS},(standP s rm n x t).1=0→Cov s t (standP s rm n x t).2∧x.d∈(standP s rm n x t).2.m.map (·.1)
 | 0,x,t,he=>by cases he
 | n+1,x,t,he=>by
  rw[standP] at he⊢
  by_cases c:(visit s rm x t).1≠0
  ·rw[if_pos c] at he;exact absurd he c
  ·rw[if_neg c] at he⊢
   have c0:(visit s rm x t).1=0:=by simpa using c
   have hm:=visit_m c0
   obtain⟨h1,h2⟩:=seqS_cov (s:=s) (f:=fun y u=>standP s rm n y (push y u)) (fun y hy u hu=>by
    have h3:=standP_cov n (x:=y) (t:=push y u) hu
    refine⟨?_,h3.2⟩
    have ob:=h3.1
    obtain⟨l,h4,h5⟩:=ob
    exact⟨l,by rw[h4,push_m],h5⟩) he
   have hin:x.d∈(visit s rm x t).2.2.m.map (·.1):=by rw[hm,map_append];simp
   refine⟨?_,h1.mem hin⟩
   obtain⟨l,h4,h5⟩:=h1
   have ob:=visit_ok c0
   obtain⟨_,_,g0,hk⟩:=ob
   refine⟨(x.d,x.dir)::l,by rw[h4,hm,append_assoc];rfl,fun p hp=>?_⟩
   rcases mem_cons.1 hp with rfl | hp
   ·refine⟨g0,fun hd=>?_⟩
    rcases hk with⟨_,e0,ek⟩ | ⟨e0,_⟩
    ·refine⟨e0,fun y hy=>?_⟩
     have ob:=mem_map.1 hy
     obtain⟨e,he',rfl⟩:=ob
     exact h2 (kidOf x e) (by rw[ek];exact mem_map.2 ⟨e,he',rfl⟩)
    ·rw[e0] at hd;cases hd
   ·exact h5 p hp
theorem ordM_head{d:U8} (b:Bool) (n:List (List UInt8×Bool)):(ordM ((d,b)::n))[0]?=some d:=by
 have h:∀(n:List (List UInt8×Bool)) (o:List (List UInt8)),o[0]?=some d→(n.foldl (fun o p=>if p.1∈o then o else o++[p.1]) o)[0]?=some d:=by
  intro n
  induction n with
  | nil=>exact fun o h=>h
  | cons p n ih=>
   intro o h
   rw[foldl_cons]
   refine ih _ ?_
   split
   ·exact h
   ·rw[List.getElem?_append_left (List.getElem?_eq_some_iff.1 h).1];exact h
 show(((d,b)::n).foldl _ [])[0]?=_
 rw[foldl_cons]
 exact h n _ (by simp)
structure Met (s:AS) (d:(List UInt8)) (m:List ((List UInt8)×Bool)):Prop where
 head:(ordM m)[0]?=some d
 got:∀p∈m,(s.get p.1).2=0
 len:∀e∈ordM m,e.length=32
 sub:∀e∈ordM m,∀x∈partsM s m e,x∈ordM m
theorem runs_met{d:U8}{t:WS} (hd:d.length=32) (h:runs s rm [rootS d] ws0=(0,t)):Met s d t.m:=by
 rw[runs_root] at h
 have h0:(standP s rm 34 (rootS d) ws0).1=0:=by rw[h]
 have h32:=root_M32 hd h0
 have ob:=root_split h0
 obtain⟨t1,h1,_,h2⟩:=ob
 have hc:=(standP_cov 34 h0).1
 rw[h] at hc h32
 obtain⟨n,hn,hp⟩:=hc
 have hn':t.m=n:=by rw[hn];rfl
 rw[←hn'] at hp
 have hle:∀e∈ordM t.m,e.length=32:=fun e he=>by
  rw[ordM_mem] at he
  have ob:=mem_map.1 he
  obtain⟨p,hp,rfl⟩:=ob
  exact h32 p hp
 refine⟨?_,fun p hpm=>(hp p hpm).1,hle,fun e he x hx=>?_⟩
 ·have hs:(seqS (fun y u=>stand s rm 33 y u) (kids (rootS d) (s.get d).1) t1).1=0:=by rw[←h2];exact h0
  obtain⟨⟨l,hl,_⟩,_⟩:=seqS_cov (s:=s) (f:=fun y u=>stand s rm 33 y u) (fun y hy u hu=>by
   have h3:=standP_cov 33 (x:=y) (t:=push y u) hu
   have ob:=h3.1
   obtain⟨l,h4,h5⟩:=ob
   exact⟨⟨l,by rw[stand,h4,push_m],h5⟩,h3.2⟩) hs
  rw[←h2,h,h1] at hl
  rw[hl]
  exact ordM_head true l
 ·unfold partsM at hx
  split at hx
  ·rename_i hm
   rw[ordM_mem]
   exact((hp _ hm).2 rfl).2 x hx
  ·cases hx
theorem Met.goes{d:U8}{m:List (List UInt8×Bool)} (h:Met s d m):∃gf of k,Goes (partsM s m) [d] [] [] gf of k:=by
 obtain⟨g,o,k,hG⟩:=goes_all (P:=partsM s m) (U:=ordM m) h.sub _ [d] [] [] (Nat.le_refl _) fun x hx=>by
  obtain rfl:=mem_singleton.1 hx
  exact mem_of_getElem? h.head
 exact⟨g,o,k,hG⟩
end
section
variable{br:Nat}{s:AS}{D R:OL}{d:U8}{w0:World}
end
theorem get_raw{s:AS}{d:U8} (h:(s.get d).2=0):s.raw d=(s.get d).1:=by
 unfold AS.get at h⊢
 unfold AS.raw
 cases hx:findX d s.X with
 | none=>rfl
 | some b=>
  rw[hx] at h
  simp only at h⊢
  by_cases hf:frontL b.x s.k=d
  ·rw[if_pos hf]
  ·rw[if_neg hf] at h;cases h
section
variable{S:List Nat}{a b q:Nat×Obj}{Lo X:OL}{w w':World}
theorem Step.pIn (h:Step S (a::(Lo++X)) w w'):Step S (Lo++(a::X)) w w':=h.perm perm_middle.symm
theorem Step.pOut (h:Step S (Lo++(a::X)) w w'):Step S (Lo++X) w w':=Step.tail (p:=a) (h.perm perm_middle)
end
section
variable{br:Nat}{s:AS}{D R:OL}{d:U8}{w0:World}{m:List (List UInt8×Bool)}{v:Value}
end
section
variable{S:List Nat}{a b q:Nat×Obj}{Lg Lo Lu A X B:OL}{w w':World}
end
def GRep (bG br:Nat) (vL:Value) (g o:List (List UInt8)) (W:(List (Nat×Obj))):Prop:=
 ∃vg Lg vo Lo,W=(bG,blk 225 [.pointer (some ⟨br,0,none⟩),vL,vg,vo])::(Lg++Lo)∧OwnSl 44 32 vg g.length (digsL g) Lg∧OwnSl 44 32 vo o.length (digsL o) Lo
section
variable{br bG:Nat}{s:AS}{D R LvL:OL}{r:U8}{m:List (List UInt8×Bool)}{vL:Value}
end
end Go.Gx
namespace Go.Gx
open Go.Proofs List
theorem entsP_len{bs:U8}:∀{n:Nat}{a:U8}{p q:Nat}{l:List Ent},entsP bs n a p=.ok (l,q)→l.length=n
 | 0,a,p,q,l,h=>by
  unfold entsP at h
  injection h with h;injection h with h1 h2
  subst h1;rfl
 | n+1,a,p,q,l,h=>by
  unfold entsP at h
  split at h
  ·cases h
  ·rename_i x q' h1
   split at h
   ·cases h
   ·rename_i l' r h2
    injection h with h;injection h with h3 h4
    subst h3
    rw[length_cons,entsP_len h2]
theorem decL_len (y:U8):(decL y).length≤1024:=by
 unfold decL
 split
 ·unfold readP
  split
  ·exact Nat.zero_le _
  ·rename_i l q h
   split
   ·exact Nat.zero_le _
   ·unfold decP at h
    split at h
    ·cases h
    ·split at h
     ·split at h
      ·cases h
      ·rename_i n q' hm
       have h1:=entsP_len h
       have h2:=(mostP_ok hm).2.2
       show l.length≤1024
       omega
     ·cases h
 ·exact Nat.zero_le _
theorem partsM_len (s:AS) (m:List (List UInt8×Bool)) (d:U8):(partsM s m d).length<1000000000:=by
 unfold partsM
 split
 ·unfold partsD
  rw[length_map]
  have:=decL_len (s.get d).1
  omega
 ·decide
end Go.Gx
namespace Go.Gx
open Go.Proofs List
attribute [local irreducible] shaL cutD frontL
def copyR (t:AS):List ((List UInt8)×(List UInt8))→Nat→Nat×Int×AS
 | [],n=>(n,0,t)
 | (d,b)::l,n=>if (t.put b).2.1≠0 then (n,(((t.put b).2.1:Nat):Int),(t.put b).2.2) else copyR (t.put b).2.2 l (if (t.put b).2.2.stamp d=t.stamp d then n else n+1)
section
variable{t:AS}{d b:U8}{l:List (List UInt8×List UInt8)}{n:Nat}
theorem copyR_bad (h:(t.put b).2.1≠0):copyR t ((d,b)::l) n=(n,(((t.put b).2.1:Nat):Int),(t.put b).2.2):=by rw[copyR,if_pos h]
theorem copyR_same (h:(t.put b).2.1=0) (h2:(t.put b).2.2.stamp d=t.stamp d):copyR t ((d,b)::l) n=copyR (t.put b).2.2 l n:=by rw[copyR,if_neg (fun hh=>hh h),if_pos h2]
theorem copyR_new (h:(t.put b).2.1=0) (h2:¬(t.put b).2.2.stamp d=t.stamp d):copyR t ((d,b)::l) n=copyR (t.put b).2.2 l (n+1):=by rw[copyR,if_neg (fun hh=>hh h),if_neg h2]
def cpR (r:Int×WS) (s t:AS) (of:List (List UInt8)):Nat×Int×AS:=if r.1≠0 then (0,r.1,t) else copyR t (of.map fun x=>(x,(s.get x).1)) 0
theorem cpR_bad{r:Int×WS}{s t:AS}{of:List (List UInt8)} (h:r.1≠0):cpR r s t of=(0,r.1,t):=if_pos h
theorem cpR_ok{r:Int×WS}{s t:AS}{of:List (List UInt8)} (h:r.1=0):cpR r s t of=copyR t (of.map fun x=>(x,(s.get x).1)) 0:=if_neg (fun hh=>hh h)
theorem put_32 (ok:t.Ok) (y:U8):(t.put y).1.length=32:=by
 unfold AS.put
 simp only
 split
 ·rfl
 ·have h1:∀{r:List UInt8×Nat×AS},r=(match ({ t with puts:=t.puts+1 }:AS).lay (frontL y t.k) y with | some s2=>(frontL y t.k,0,s2) | none=>(zD,43,{ t with puts:=t.puts+1 }))→r.1.length=32:=fun {r} hr=>by
   cases hl:({ t with puts:=t.puts+1 }:AS).lay (frontL y t.k) y with
   | none=>rw[hl] at hr;rw[hr];rfl
   | some s2=>rw[hl] at hr;rw[hr];exact frontL_len ok.k2
  split
  ·split
   ·exact frontL_len ok.k2
   ·split
    ·rfl
    ·exact h1 rfl
  ·exact h1 rfl
theorem put_there (h:t.get d=(b,0)) (hp:(t.put b).2.1=0):(t.put b).2.2 = { t with puts:=t.puts+1 }:=by
 unfold AS.get at h
 cases hx:findX d t.X with
 | none=>rw[hx] at h;simp at h
 | some x=>
  rw[hx] at h
  simp only at h
  by_cases hf:frontL x.x t.k=d
  ·rw[if_pos hf] at h
   obtain rfl:x.x=b:=congrArg Prod.fst h
   unfold AS.put at hp⊢
   simp only at hp⊢
   split
   ·rfl
   ·rw[hf,hx]
    simp only[if_true]
  ·rw[if_neg hf] at h
   simp at h
end
theorem Met.of_le{s:AS}{d:U8}{m:List (List UInt8×Bool)}{gf of:List (List UInt8)}{k:Nat} (h:Met s d m) (hG:Goes (partsM s m) [d] [] [] gf of k):of.length≤m.length∧∀x∈of,x∈ordM m:=by
 have h1:=hG.nodup nodup_nil
 have h2:=hG.sub h.sub (fun x hx=>by obtain rfl:=mem_singleton.1 hx;exact mem_of_getElem? h.head) (fun x hx=>by cases hx)
 have ob:=hG.ext
 obtain⟨n,t,e1,e2,hp⟩:=ob
 rw[nil_append] at e1 e2
 subst e1
 subst e2
 have h3:=nodup_len h1 h2
 have h4:=ordM_len m
 exact⟨by rw[hp.length_eq];omega,fun x hx=>h2 x (hp.mem_iff.1 hx)⟩
section
variable{S:List Nat}{a p q:Nat×Obj}{A B C E O Z X Y:OL}{w w':World}
theorem Step.k7 (h:Step S (a::(O++(A++(B++(E++((p::q::Z)++X)))))) w w'):Step S [a,p,q] w w':=Step.dropR (L1:=[a,p,q]) (L2:=O++(A++(B++(E++(Z++X))))) (h.perm (by classical exact perm_iff_count.2 fun x=>by simp only[count_append,count_cons,count_nil];omega))
theorem Step.k8 (h:Step S (a::(O++(A++(B++(C++(E++((p::q::Z)++X))))))) w w'):Step S [a,p,q] w w':=Step.dropR (L1:=[a,p,q]) (L2:=O++(A++(B++(C++(E++(Z++X)))))) (h.perm (by classical exact perm_iff_count.2 fun x=>by simp only[count_append,count_cons,count_nil];omega))
theorem Step.fin3 (hw:Lives (A++(O++X)) w) (h:Step (List.map (·.1) (A++(O++X))) (Y++X) w w'):Step (List.map (·.1) (A++O)) Y w w':=
 Step.narrow (W:=A++O) (D:=X) (by rw[append_assoc];exact hw) (by rw[append_assoc];exact h)
end
section
variable{bf tp:Nat}{s t1:AS}{Q:OL→OL→Prop}{Lt O D:OL}{d:U8}{r:Int×WS}{rn rd rb:Int}{N k kw:Nat}{gf of:List (List UInt8)}{w0:World}
def WkTo (bf tp:Nat) (s t1:AS) (Q:(List (Nat×Obj))→(List (Nat×Obj))→Prop) (Lt O D:(List (Nat×Obj))) (r:Int×WS) (w:World) (e:Ending) (w':World):Prop:=
 ∃v L1 O1 D1 M,e=.returned (.tuple #[v,.int .i64 r.1])∧PRep tp t1 (D1++D) L1∧Q (D1++D) O1∧(r.1=0→∃bm,v=.pointer (some ⟨bm,0,none⟩)∧MetRep bm s r.2.m (D1++D) M)∧Step (List.map (·.1) (Lt++O)) (L1++(O1++(M++D1))) w w'
set_option maxHeartbeats 8000000 in
theorem copyP_spec (hQ:∀{D1 D2 O1:OL},Q D1 O1→(∀p∈D1,p∈D2)→Q D2 O1)
  (hwf:∀{w:World},Lives (Lt++(O++D)) w→CP 69 #[pt bf] w (Ret0 (.int .i64 (kw:Nat)) w))
  (hwt:∀{w:World},Lives (Lt++(O++D)) w→CP 69 #[pt tp] w (Ret0 (.int .i64 (kw:Nat)) w))
  (hwk:∀{w:World},Lives (Lt++(O++D)) w→CP 64 #[pt bf,.agg (u8s d).toArray,.agg #[.int .i64 rn,.int .i64 rd,.int .i64 rb]] w (WkTo bf tp s t1 Q Lt O D r w))
  (ok:s.Ok) (okt:t1.Ok) (hfew:t1.Few N) (hN:N<1000000000) (hd:d.length=32) (hmet:r.1=0→Met s d r.2.m) (hml:r.1=0→r.2.m.length≤65536) (hG:r.1=0→Goes (partsM s r.2.m) [d] [] [] gf of k) (hw:Lives (Lt++(O++D)) w0) :
  CP 25 #[pt bf,pt tp,.agg (u8s d).toArray,.agg #[.int .i64 rn,.int .i64 rd,.int .i64 rb]] w0 fun e w'=>∃L2 O2 D2,e=.returned (.tuple #[.int .i64 ((cpR r s t1 of).1:Nat),.int .i64 (cpR r s t1 of).2.1])∧
   PRep tp (cpR r s t1 of).2.2 (D2++D) L2∧Q (D2++D) O2∧Step (List.map (·.1) (Lt++O)) (L2++(O2++D2)) w0 w':=by
 have hdl:(u8s d).length=32:=by rw[u8s,length_map,hd]
 have hs:Step (List.map (·.1) (Lt++(O++D))) (Lt++(O++D)) w0 w0:=hw
 refine calls (n:=67) Tryz.func25 rfl rfl rfl ?_
 refine sr<|WL.box (cs:=u8s d) rfl rfl rfl hs (fun b6 w hs=>?_)
 refine WL.box (cs:=[.int .i64 rn,.int .i64 rd,.int .i64 rb]) rfl rfl rfl hs (fun b7 w hs=>?_)
 refine wA<|wA<|wZ<|cq<|sr<|wm<|wE rfl (run_call en69 rfl rfl) (hwf (Lives.mk hs.tail.tail)) ?_
 rintro e w ⟨rfl,hq⟩
 refine⟨_,rfl,?_⟩
 replace hs:=hs.callE hq
 refine wm<|wE rfl (run_call en69 rfl rfl) (hwt (Lives.mk hs.tail.tail)) ?_
 rintro e w ⟨rfl,hq⟩
 refine⟨_,rfl,?_⟩
 replace hs:=hs.callE hq
 refine wV (run_bF (run_neq rfl rfl) (by exact fun h=>h rfl))<|wZ<|CW.cond rfl (fun h=>?_) (fun h=>?_)
 ·cases h
 have hcall:∀{w w':World}{Y:OL},Step (List.map (·.1) (Lt++(O++D))) (Lt++(O++D)) w0 w→Step (List.map (·.1) (Lt++O)) Y w w'→Step (List.map (·.1) (Lt++(O++D))) (Y++D) w0 w':=fun h h2=>Step.call (L1:=Lt++O) (by rw[append_assoc];exact h) h2
 refine ck<|sr<|wm<|wR ty44 rfl hdl hs.a1<|wR ty30 rfl rfl hs.a0<|wE rfl (run_call en64 rfl rfl) (hwk (Lives.mk hs.tail.tail)) ?_
 rintro e w ⟨v,L1,O1,D1,M,rfl,hP1,hQ1,hM,hq⟩
 refine⟨_,rfl,?_⟩
 replace hs:=hcall hs.tail.tail hq
 refine wm<|wx rfl rfl<|wx rfl rfl<|wA<|wA<|wZ ?_
 by_cases he:r.1≠0
 ·rw[cpR_bad he]
  refine cq<|sr<|wm<|wV (run_bT (run_neq rfl rfl) (by exact he))<|wZ<|CW.cond rfl (fun h=>?_) (fun h=>?_)
  ·refine sr<|wm<|wA<|wA<|wZ<|CW.ret ?_
   refine fin_ret2 rfl ?_
   exact⟨L1,O1,M++D1,rfl,hP1.mono fun p hp=>by rw[append_assoc];exact mem_append_right _ hp,hQ hQ1 fun p hp=>by rw[append_assoc];exact mem_append_right _ hp,Step.fin3 hw hs⟩
  ·cases h
 have he0:r.1=0:=by simpa using he
 have hmet:=hmet he0
 have hml:=hml he0
 have hG:=hG he0
 have ob:=hmet.of_le hG
 obtain⟨hol,hofU⟩:=ob
 have ob:=hM he0
 obtain⟨bm,rfl,hMet⟩:=ob
 rw[cpR_ok he0]
 refine cq<|sr<|wm<|wV (run_bF (run_neq rfl rfl) (by exact he))<|wZ<|CW.cond rfl (fun h=>?_) (fun h=>?_)
 ·cases h
 replace hs:Step (List.map (·.1) (Lt++(O++D))) (L1++(O1++(M++(D1++D)))) w0 w:=by
  have h:=hs
  rwa [append_assoc,append_assoc,append_assoc] at h
 refine ck<|sr<|wA<|wZ<|cq<|sr<|wm<|wE rfl (run_call en70 rfl rfl) (behind_spec hMet (Lives.mk (Step.dropL (L1:=O1) (Step.dropL (L1:=L1) hs))) hmet.len hmet.sub (partsM_len s _) hml hmet.head hG) ?_
 rintro e w ⟨vo,Lo,rfl,hvo,hq⟩
 refine⟨_,rfl,?_⟩
 replace hs:=Step.call0 hs hq
 have ob:=hvo.form
 obtain⟨oa,oc,rfl⟩:=ob
 refine wL u35 rfl<|wm<|wZ ?_
 obtain⟨vO,LO,q1,M1,c1,q2,M2,c2,rfl,hO,hB,hPm⟩:=hMet
 have ob:∃G,copyR t1 (of.map fun x=>(x,(s.get x).1)) 0=G:=⟨_,rfl⟩
 obtain⟨G,hGe⟩:=ob
 rw[hGe]
 have ob:∃Z,Lo++(((bm,blk 132 [vO,.map (some q1),.map (some q2)])::(q1,mapObj M1 c1)::(q2,mapObj M2 c2)::LO)++(D1++D))=Z:=⟨_,rfl⟩
 obtain⟨Z,hZ⟩:=ob
 have hDZ:∀p∈D1++D,p∈Z:=fun p hp=>hZ▸mem_append_right _ (mem_append_right _ hp)
 have hLZ:∀p∈Lo,p∈Z:=fun p hp=>hZ▸mem_append_left _ hp
 replace hs:Step (List.map (·.1) (Lt++(O++D))) (O1++(L1++([]++Z))) w0 w:=by
  rw[←hZ]
  exact hs.perm (by classical exact perm_iff_count.2 fun x=>by simp only[count_append,count_cons,count_nil];omega)
 have hend:∀{L2 D2:OL}{w:World}{t:AS},PRep tp t (D2++Z) L2→Step (List.map (·.1) (Lt++(O++D))) (O1++(L2++(D2++Z))) w0 w→∃L2' O2 D2',PRep tp t (D2'++D) L2'∧Q (D2'++D) O2∧Step (List.map (·.1) (Lt++O)) (L2'++(O2++D2')) w0 w:=fun {L2 D2 w t} hP h=>by
  refine⟨L2,O1,D2++(Lo++(((bm,blk 132 [vO,.map (some q1),.map (some q2)])::(q1,mapObj M1 c1)::(q2,mapObj M2 c2)::LO)++D1)),hP.mono fun p hp=>?_,hQ hQ1 fun p hp=>?_,Step.fin3 hw (h.perm ?_)⟩
  ·rw[←hZ] at hp
   simpa[append_assoc] using hp
  ·simp only[mem_append] at hp⊢
   rcases hp with hp | hp <;> simp[hp]
  ·rw[←hZ]
   classical exact perm_iff_count.2 fun x=>by simp only[count_append,count_cons,count_nil];omega
 refine cB<|CW.loop (fun z f w'=>∃(i n:Nat) (t:AS) (Lc Dc:OL),i≤of.length∧z=of.length - i∧n≤i∧t.Ok∧t.Few (N+i)∧copyR t ((of.drop i).map fun x=>(x,(s.get x).1)) n=G∧PRep tp t (Dc++Z) Lc∧Step (List.map (·.1) (Lt++(O++D))) (O1++(Lc++(Dc++Z))) w0 w'∧Holds f [(1,pt tp),(10,pt bm),(12,.int .i64 (n:Nat)),(34,.slice oa of.length oc),(35,.int .i64 (of.length:Nat)),(36,.int .i64 (i:Nat))]) (m:=of.length) ?_ ?_
 ·exact⟨0,0,t1,L1,[],Nat.zero_le _,rfl,Nat.le_refl _,okt,hfew,hGe,hP1.mono hDZ,hs,rfl,rfl,rfl,rfl,rfl,rfl,trivial⟩
 clear hs
 rintro z f w ⟨i,n,t,Lc,Dc,hil,rfl,hni,oki,fewi,hGi,hPi,hs,hf⟩
 have ob:=hf.chain
 obtain⟨g,rfl⟩:=ob
 by_cases hlt:i<of.length
 ·have ob:∃x,of[i]?=some x:=⟨_,getElem?_eq_getElem hlt⟩
  obtain⟨x,hx⟩:=ob
  have hxU:=hofU x (mem_of_getElem? hx)
  have hx32:=hmet.len x hxU
  have hxl:(u8s x).length=32:=by rw[u8s,length_map,hx32]
  have hgx:=get_len ok x
  have ob:=hvo.some1 (by omega)
  obtain⟨bu,cu,more,hu1,hu2,hu3⟩:=ob
  cases hu1
  have hbZ:(bu,blk 44 (digsL of++more))∈Z:=hLZ _ (by rw[hu2];exact mem_singleton.2 rfl)
  have hxat:At w bu (0+i*32) (u8s x):=digsL_at (fun y hy=>hmet.len y (hofU y hy)) (At.of_blk (hs.has (bu,blk 44 (digsL of++more)) (by simp[hbZ]))).left hx
  have hdrop:of.drop i=x::of.drop (i+1):=by
   rw[drop_eq_getElem_cons hlt]
   rw[getElem?_eq_getElem hlt] at hx
   rw[Option.some.inj hx]
  rw[hdrop,map_cons] at hGi
  have hbv:=hB.val x
  obtain⟨u,hu,hHl⟩:∃u,((findD x M1 0).map (·.2)).getD (.slice none 0 0)=u∧Held (D1++D) u (s.get x).1:=by
   cases hv:valD x M1 with
   | none=>rw[hv] at hbv;exact absurd hxU hbv
   | some u=>
    rw[hv] at hbv
    refine⟨u,?_,hbv.2⟩
    show(valD x M1).getD _=_
    rw[hv];rfl
  have hst1:=fun{w:World} h=>stamp_abs (w0:=w) hPi oki h hx32
  have hroom:Room u:=by
   obtain⟨Lv,hOv,_⟩:=hHl
   exact hOv.room (by decide)
  have hHZ:Held (Dc++Z) u (s.get x).1:=hHl.mono fun p hp=>mem_append_right _ (hDZ p hp)
  have hput:=fun{w1:World} (hl:Lives (Lc++(Dc++Z)) w1)=>put_abs (w0:=w1) (y:=(s.get x).1) hPi oki fewi (by omega) hl (hHZ.sl fun p hp=>hl.has p (mem_append_right _ hp)) hroom (.inr (Own.outside (A:=[]) (L:=Lc) (D:=Dc++Z) hl hHZ)) (by omega)
  have hk1:∀{b14:Nat}{w:World},Step (List.map (·.1) (Lt++(O++D))) ((b14,blk 44 (u8s x))::(O1++(Lc++(Dc++Z)))) w0 w→Step (List.map (·.1) (Lt++(O++D))) [(b14,blk 44 (u8s x)),(bm,blk 132 [vO,.map (some q1),.map (some q2)]),(q1,mapObj M1 c1)] w0 w:=fun h=>Step.k7 (by rw[←hZ] at h;exact h)
  have hk2:∀{b14:Nat}{w:World}{A B:OL},Step (List.map (·.1) (Lt++(O++D))) ((b14,blk 44 (u8s x))::(O1++(A++(B++(Dc++Z))))) w0 w→Step (List.map (·.1) (Lt++(O++D))) [(b14,blk 44 (u8s x)),(bm,blk 132 [vO,.map (some q1),.map (some q2)]),(q1,mapObj M1 c1)] w0 w:=fun h=>Step.k8 (by rw[←hZ] at h;exact h)
  have ob:∃y,(s.get x).1=y:=⟨_,rfl⟩
  obtain⟨y,hye⟩:=ob
  rw[hye] at hGi hgx
  rw[hye] at hput
  have hp32:=put_32 oki y
  have ok2:=oki.put y
  have few2:=fewi.put y
  have hbad:=copyR_bad (t:=t) (d:=x) (b:=y) (l:=(of.drop (i+1)).map fun x=>(x,(s.get x).1)) (n:=n)
  have hsame:=copyR_same (t:=t) (d:=x) (b:=y) (l:=(of.drop (i+1)).map fun x=>(x,(s.get x).1)) (n:=n)
  have hnew:=copyR_new (t:=t) (d:=x) (b:=y) (l:=(of.drop (i+1)).map fun x=>(x,(s.get x).1)) (n:=n)
  have ob:∃pr,t.put y=pr:=⟨_,rfl⟩
  obtain⟨pr,hpr⟩:=ob
  rw[hpr] at hp32 ok2 few2 hbad hsame hnew
  simp only[hpr] at hput
  have hpl:(u8s pr.1).length=32:=by rw[u8s,length_map,hp32]
  refine sr<|lT<|wZ<|cq<|CW.cond rfl (fun h=>?_) (fun h=>?_)
  ·refine ck<|cq<|cB<|sr<|wI u35 ty44 rfl rfl<|wR ty44 rfl hxl hxat<|WL.alloc ty44 rfl hs (fun b14 w hs=>?_)
   refine WL.storeAll ty44 rfl rfl ((hxl)) ((Cells1.u8s _)) hs (by rfl) (fun w hs=>?_)
   refine wZ<|sr<|wm<|wR ty44 rfl hxl hs.a0<|wE rfl (run_call en50 rfl rfl) (hst1 (Lives.mk (Step.dropL (L1:=O1) hs.tail))) ?_
   rintro e w ⟨rfl,hq⟩
   refine⟨_,rfl,?_⟩
   replace hs:=hs.callE hq
   refine wA<|wZ<|cq<|cq<|CW.any (A:=fun w=>Step (List.map (·.1) (Lt++(O++D))) [(b14,blk 44 (u8s x)),(bm,blk 132 [vO,.map (some q1),.map (some q2)]),(q1,mapObj M1 c1)] w0 w) (C:=fun w=>Step (List.map (·.1) (Lt++(O++D))) [(b14,blk 44 (u8s x)),(bm,blk 132 [vO,.map (some q1),.map (some q2)]),(q1,mapObj M1 c1)] w0 w) 1000000 14 mixedP rfl ?_
   replace hs:=hs.drew
   refine aM 0 rfl<|aM 1 rfl<|aN 2 rfl rfl<|aF 3 rfl 1 u132 rfl ty129 rfl<|aL 4 rfl ty129 rfl (fun w hs=>hs.c1 (v:=.map (some q1)) rfl)<|aV 5 rfl (fun w hs=>run_loadN ty44 rfl hxl hs.a0)<|aV 6 rfl (fun w hs=>run_lookupV u129 (zBytes _) hB.keys hx32 hu rfl rfl (hs.has (q1,mapObj M1 c1) (by simp)))<|AL.two 7 11 (by kernel_rfl) rfl rfl (by exact hk1 hs) (by exact hk1 hs) ?_ ?_
   ·have hl51:=Lives.mk (Step.dropL (L1:=O1) (L2:=Lc++(Dc++Z)) hs.tail)
    refine wE rfl (run_call en36 rfl rfl) (hput hl51) ?_
    rintro e w ⟨L2,D2,rfl,hP2,hq⟩
    refine⟨_,rfl,?_⟩
    replace hs:=Own.put (A:=(b14,blk 44 (u8s x))::O1) (L:=Lc) hs hq
    refine wZ<|⟨rfl,?_⟩
    refine aM 8 rfl<|aX 9 rfl rfl rfl<|aX 10 rfl rfl rfl<|AL.one 11 (by kernel_rfl) rfl (by exact hk2 hs) (by exact hk2 hs) ?_
    refine WL.alloc ty44 rfl hs (fun b16 w hs=>?_)
    refine wZ<|⟨rfl,?_⟩
    refine AL.one 12 (by kernel_rfl) rfl (by exact hk2 hs.tail) (by exact hk2 hs.tail) ?_
    refine WL.storeAll ty44 rfl rfl ((hpl)) ((Cells1.u8s _)) hs (by rfl) (fun w hs=>?_)
    refine wZ<|⟨rfl,?_⟩
    refine aA 13 rfl<|AL.end (by kernel_rfl) (by exact hk2 hs.tail) (by exact hk2 hs.tail) ?_
    replace hs:=hs.tail
    by_cases hpe:pr.2.1≠0
    ·rw[hbad hpe] at hGi
     refine sr<|wm<|wV (run_bT (run_neq rfl rfl) (by exact fun h=>hpe (Int.ofNat.inj h)))<|wZ<|CW.cond rfl (fun h=>?_) (fun h=>?_)
     ·refine sr<|wm<|wm<|wA<|wA<|wZ<|CW.ret ?_
      refine fin_ret2 rfl ?_
      have ob:=hend (D2:=D2++Dc) (by rw[append_assoc];exact hP2) (by rw[append_assoc];exact hs.tail)
      obtain⟨L3,O3,D3,h1,h2,h3⟩:=ob
      rw[←hGi]
      exact⟨L3,O3,D3,rfl,h1,h2,h3⟩
     ·cases h
    have hp0:pr.2.1=0:=by simpa using hpe
    have hst2:=fun{w:World} h=>stamp_abs (w0:=w) hP2 ok2 h hx32
    refine sr<|wm<|wV (run_bF (run_neq rfl rfl) (by exact fun h=>h (congrArg Int.ofNat hp0)))<|wZ<|CW.cond rfl (fun h=>?_) (fun h=>?_)
    ·cases h
    by_cases hse:pr.2.2.stamp x=t.stamp x
    ·rw[hsame hp0 hse] at hGi
     refine ck<|sr<|wm<|wR ty44 rfl hxl hs.a0<|wE rfl (run_call en50 rfl rfl) (hst2 (Lives.mk (Step.dropL (L1:=O1) hs.tail))) ?_
     rintro e w ⟨rfl,hq⟩
     refine⟨_,rfl,?_⟩
     replace hs:=hs.callE hq
     refine wm<|wV (run_bF (run_neq rfl rfl) (by exact fun h=>h (congrArg Int.ofNat hse)))<|wZ<|CW.cond rfl (fun h=>?_) (fun h=>?_)
     ·cases h
     replace hs:=hs.tail
     refine ck<|cr<|wP ((i+1:Nat):Int)<|wm<|wZ<|(show _∧_ from⟨rfl,_,?_,i+1,n,pr.2.2,L2,D2++Dc,hlt,rfl,?_,ok2,few2,hGi,?_,?_,rfl,rfl,rfl,rfl,rfl,rfl,trivial⟩)
     ·omega
     ·omega
     ·rw[append_assoc];exact hP2
     ·rw[append_assoc];exact hs
    ·rw[hnew hp0 hse] at hGi
     refine ck<|sr<|wm<|wR ty44 rfl hxl hs.a0<|wE rfl (run_call en50 rfl rfl) (hst2 (Lives.mk (Step.dropL (L1:=O1) hs.tail))) ?_
     rintro e w ⟨rfl,hq⟩
     refine⟨_,rfl,?_⟩
     replace hs:=hs.callE hq
     refine wm<|wV (run_bT (run_neq rfl rfl) (by exact fun h=>hse (Int.ofNat.inj h)))<|wZ<|CW.cond rfl (fun h=>?_) (fun h=>?_)
     ·replace hs:=hs.tail
      refine cr<|wm<|wP ((n+1:Nat):Int)<|wA<|wZ<|cr<|wP ((i+1:Nat):Int)<|wm<|wZ<|(show _∧_ from⟨rfl,_,?_,i+1,n+1,pr.2.2,L2,D2++Dc,hlt,rfl,?_,ok2,few2,hGi,?_,?_,rfl,rfl,rfl,rfl,rfl,rfl,trivial⟩)
      ·omega
      ·omega
      ·rw[append_assoc];exact hP2
      ·rw[append_assoc];exact hs
     ·cases h
   ·refine WL.alloc ty44 rfl hs (fun b16 w hs=>?_)
    refine wZ<|⟨rfl,?_⟩
    refine AL.one 7 (by kernel_rfl) rfl (by exact hk1 hs.tail) (by exact hk1 hs.tail) ?_
    have hl51:=Lives.mk (Step.dropL (L1:=O1) (L2:=Lc++(Dc++Z)) hs.tail.tail)
    refine wE rfl (run_call en36 rfl rfl) (hput hl51) ?_
    rintro e w ⟨L2,D2,rfl,hP2,hq⟩
    refine⟨_,rfl,?_⟩
    replace hs:=Own.put (A:=_::(b14,blk 44 (u8s x))::O1) (L:=Lc) hs hq
    refine wZ<|⟨rfl,?_⟩
    refine aM 8 rfl<|aX 9 rfl rfl rfl<|aX 10 rfl rfl rfl<|AL.one 12 (by kernel_rfl) rfl (by exact hk2 hs.tail) (by exact hk2 hs.tail) ?_
    refine WL.storeAll ty44 rfl rfl ((hpl)) ((Cells1.u8s _)) hs (by rfl) (fun w hs=>?_)
    refine wZ<|⟨rfl,?_⟩
    refine aA 13 rfl<|AL.end (by kernel_rfl) (by exact hk2 hs.tail) (by exact hk2 hs.tail) ?_
    replace hs:=hs.tail
    by_cases hpe:pr.2.1≠0
    ·rw[hbad hpe] at hGi
     refine sr<|wm<|wV (run_bT (run_neq rfl rfl) (by exact fun h=>hpe (Int.ofNat.inj h)))<|wZ<|CW.cond rfl (fun h=>?_) (fun h=>?_)
     ·refine sr<|wm<|wm<|wA<|wA<|wZ<|CW.ret ?_
      refine fin_ret2 rfl ?_
      have ob:=hend (D2:=D2++Dc) (by rw[append_assoc];exact hP2) (by rw[append_assoc];exact hs.tail)
      obtain⟨L3,O3,D3,h1,h2,h3⟩:=ob
      rw[←hGi]
      exact⟨L3,O3,D3,rfl,h1,h2,h3⟩
     ·cases h
    have hp0:pr.2.1=0:=by simpa using hpe
    have hst2:=fun{w:World} h=>stamp_abs (w0:=w) hP2 ok2 h hx32
    refine sr<|wm<|wV (run_bF (run_neq rfl rfl) (by exact fun h=>h (congrArg Int.ofNat hp0)))<|wZ<|CW.cond rfl (fun h=>?_) (fun h=>?_)
    ·cases h
    by_cases hse:pr.2.2.stamp x=t.stamp x
    ·rw[hsame hp0 hse] at hGi
     refine ck<|sr<|wm<|wR ty44 rfl hxl hs.a0<|wE rfl (run_call en50 rfl rfl) (hst2 (Lives.mk (Step.dropL (L1:=O1) hs.tail))) ?_
     rintro e w ⟨rfl,hq⟩
     refine⟨_,rfl,?_⟩
     replace hs:=hs.callE hq
     refine wm<|wV (run_bF (run_neq rfl rfl) (by exact fun h=>h (congrArg Int.ofNat hse)))<|wZ<|CW.cond rfl (fun h=>?_) (fun h=>?_)
     ·cases h
     replace hs:=hs.tail
     refine ck<|cr<|wP ((i+1:Nat):Int)<|wm<|wZ<|(show _∧_ from⟨rfl,_,?_,i+1,n,pr.2.2,L2,D2++Dc,hlt,rfl,?_,ok2,few2,hGi,?_,?_,rfl,rfl,rfl,rfl,rfl,rfl,trivial⟩)
     ·omega
     ·omega
     ·rw[append_assoc];exact hP2
     ·rw[append_assoc];exact hs
    ·rw[hnew hp0 hse] at hGi
     refine ck<|sr<|wm<|wR ty44 rfl hxl hs.a0<|wE rfl (run_call en50 rfl rfl) (hst2 (Lives.mk (Step.dropL (L1:=O1) hs.tail))) ?_
     rintro e w ⟨rfl,hq⟩
     refine⟨_,rfl,?_⟩
     replace hs:=hs.callE hq
     refine wm<|wV (run_bT (run_neq rfl rfl) (by exact fun h=>hse (Int.ofNat.inj h)))<|wZ<|CW.cond rfl (fun h=>?_) (fun h=>?_)
     ·replace hs:=hs.tail
      refine cr<|wm<|wP ((n+1:Nat):Int)<|wA<|wZ<|cr<|wP ((i+1:Nat):Int)<|wm<|wZ<|(show _∧_ from⟨rfl,_,?_,i+1,n+1,pr.2.2,L2,D2++Dc,hlt,rfl,?_,ok2,few2,hGi,?_,?_,rfl,rfl,rfl,rfl,rfl,rfl,trivial⟩)
      ·omega
      ·omega
      ·rw[append_assoc];exact hP2
      ·rw[append_assoc];exact hs
     ·cases h
  ·cases h
 ·obtain rfl:i=of.length:=by omega
  rw[drop_length] at hGi
  obtain rfl:(n,0,t)=G:=hGi
  have ob:=hend hPi hs
  obtain⟨L2,O2,D2,h1,h2,h3⟩:=ob
  refine sr<|lF<|wZ<|cq<|CW.cond rfl (fun h=>?_) (fun h=>?_)
  ·cases h
  refine CW.exit<|sr<|wm<|wA<|wA<|wZ<|CW.ret ?_
  refine fin_ret2 rfl ?_
  exact⟨L2,O2,D2,rfl,h1,h2,h3⟩
end
section
variable{br:Nat}{s:AS}{D R:OL}{d:U8}{w0:World}
end
section
variable{bf tp:Nat}{s t1:AS}{I:AS→Prop}{Q:OL→OL→Prop}{Rt O D:OL}{d:U8}{r:Int×WS}{rn rd rb:Int}{N k kw:Nat}{gf of:List (List UInt8)}{w0:World}
def WkToR (bf tp:Nat) (t1:AS) (Q:(List (Nat×Obj))→(List (Nat×Obj))→Prop) (Rt O D:(List (Nat×Obj))) (r:Int×WS) (w:World) (e:Ending) (w':World):Prop:=
 ∃v R1 O1 D1 Lv,e=.returned (.tuple #[v,.int .i64 r.1])∧RRep tp t1 (D1++D) R1∧Q (D1++D) O1∧(r.1=0→OwnSl 137 33 v r.2.m.length (rowsSt r.2.m) Lv)∧Step (List.map (·.1) (Rt++O)) (R1++(O1++(Lv++D1))) w w'
end
section
variable{bp br tp tr:Nat}{s t:AS}{D L Lt R Rt:OL}{d:U8}{rn rd rb:Int}{N k:Nat}{gf of:List (List UInt8)}{w0:World}
structure Wkd (s:AS) (d:(List UInt8)) (r:Int×WS) (gf of:List (List UInt8)) (k:Nat):Prop where
 met:r.1=0→Met s d r.2.m
 len:r.1=0→r.2.m.length≤65536
 m32:r.1=0→∀p∈r.2.m,p.1.length=32
 go:r.1=0→Goes (partsM s r.2.m) [d] [] [] gf of k
theorem runs_wkd (hd:d.length=32) (hrm:(rmOf rn rd rb).Ok):∃gf of k,Wkd s d (runs s (rmOf rn rd rb) [rootS d] ws0) gf of k∧of.length≤65536:=by
 have hmet:=fun{t:WS} h=>runs_met (s:=s) (rm:=rmOf rn rd rb) (t:=t) hd h
 have hgd:=standP_good (s:=s) (rm:=rmOf rn rd rb) hrm 34 (x:=rootS d) (t:=ws0) (ws0_good.mono (by omega))
 have hM32:=root_M32 (s:=s) (rm:=rmOf rn rd rb) hd
 rw[←runs_root] at hgd hM32
 have ob:∃r,runs s (rmOf rn rd rb) [rootS d] ws0=r:=⟨_,rfl⟩
 obtain⟨r,hr⟩:=ob
 rw[hr] at hmet hgd hM32⊢
 by_cases he:r.1=0
 ·have h1:=hmet (t:=r.2) (by rw[←he])
  have hg:=hgd he
  have hml:r.2.m.length≤65536:=Nat.le_trans hg.m hg.n
  have ob:=h1.goes
  obtain⟨gf,of,k,hG⟩:=ob
  exact⟨gf,of,k,⟨fun _=>h1,fun _=>hml,fun _=>hM32 he,fun _=>hG⟩,Nat.le_trans (h1.of_le hG).1 hml⟩
 ·exact⟨[],[],0,⟨fun h=>absurd h he,fun h=>absurd h he,fun h=>absurd h he,fun h=>absurd h he⟩,Nat.zero_le _⟩
section
variable{r:Int×WS}
end
section
variable (W:Wkd s d (runs s (rmOf rn rd rb) [rootS d] ws0) gf of k) (ok:s.Ok) (hfew:s.Few N) (hN:N<900000000) (hd:d.length=32) (hrm:(rmOf rn rd rb).Ok)
include W ok hfew hN hd hrm
end
end
end Go.Gx
