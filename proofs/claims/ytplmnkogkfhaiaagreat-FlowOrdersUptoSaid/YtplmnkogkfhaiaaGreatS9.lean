/- The document's tree.Build, safely. Chapter 8's World: both Stores stand for one plain Store; put. A World's root. A Setup as a value; the first of made's loops: trees. made: both Stores stand for one plain Store, whatever the Setup. What chapter 8's law knows: a directory of one file is reached. Any -/
import Derived.Test.YtplmnkogkfhaiaaGreatS8
import Derived.Test.YtplmnkogkfhaiaaGreatS2
import Derived.Test.YtplmnkogkfhaiaaGreatRows
import Derived.ProofKit
import Derived.OpenShut
import Derived.JoinedCond
import Derived.Deep.Slices
import Derived.Deep.Strs
import Derived.ChangeMaps5
import Derived.SliceStrings
set_option linter.unusedVariables false
set_option linter.unusedSimpArgs false
set_option maxRecDepth 100000
namespace Go.Gx
open Go.Proofs Go.RowKit List
attribute [local irreducible] shaL cutD frontL
theorem fin_cellTmp2{P:Program}{n:Nat}{w:World}{fn:Func}{R:Ending→World→Prop}{f:Slots}{t u s:Tmp}{T:TypeId}{A:Addr}{v:Value} (hr:fn.results=#[.cell t T,.tmp u,.tmp s]) (hA:f t=.pointer (some A)) (hv:(loadVar T A).run P w=.ok v w) (h:R (.returned (.tuple #[v,f u,f s])) w):fin P n fn R .ret f [] w:=
 fun a ha=>bodyPost_ret (v:=.tuple #[v,f u,f s]) (by simp[results,hr,ha.get,hA,asAddr,hv]) ha.defers h
theorem cellsB_at{B:BL}{w:World}{b off:Nat} (h:At w b off (cellsB B)){i:Nat}{t:Value×List UInt8} (ht:B[i]?=some t):w.cell? ⟨b,off+i*1,none⟩=some t.1:=by
 refine h.cell (j:=i*1) ?_
 rw[Nat.mul_one,cellsB,getElem?_map,ht];rfl
section
variable{S:List Nat}{A B C D E F G X Y:OL}{a b c:Nat×Obj}{w w':World}
theorem Step.r1 (h:Step S ((A++(B++C))++(a::X)) w w'):Step S (a::(B++(A++(C++X)))) w w':=h.perm (by classical exact perm_iff_count.2 fun x=>by simp only[count_append,count_cons];omega)
theorem Step.r2 (h:Step S (A++(a::(B++(E++D)))) w w'):Step S (B++(a::(A++D))) w w':=Step.dropL (L1:=E) (h.perm (by classical exact perm_iff_count.2 fun x=>by simp only[count_append,count_cons];omega))
theorem Step.r3 (h:Step S (b::(B++X)) w w'):Step S (B++(b::X)) w w':=h.perm (by classical exact perm_iff_count.2 fun x=>by simp only[count_append,count_cons];omega)
theorem Step.r4 (h:Step S (B++(b::(a::X))) w w'):Step S (a::(B++X)) w w':=Step.tail (p:=b) (h.perm (by classical exact perm_iff_count.2 fun x=>by simp only[count_append,count_cons];omega))
theorem Step.r5 (h:Step S (b::(A++(a::(B++D)))) w w'):Step S (A++(b::(a::(B++D)))) w w':=h.perm (by classical exact perm_iff_count.2 fun x=>by simp only[count_append,count_cons];omega)
theorem Step.r6 (h:Step S (A++(b::(a::(B++D)))) w w'):Step S (A++(a::(B++D))) w w':=Step.tail (p:=b) (h.perm (by classical exact perm_iff_count.2 fun x=>by simp only[count_append,count_cons];omega))
theorem Step.r7 (h:Step S (A++(a::(B++D))) w w'):Step S (a::(A++(B++D))) w w':=h.perm perm_middle
end
def BuildPost (w0:World) (e:Ending) (w':World):Prop:=
 ∃d vB LB B D er,e=.returned (.tuple #[.agg (u8s d).toArray,vB,.int .i64 er])∧d.length=32∧OwnSl 76 1 vB B.length (cellsB B) LB∧BOk D B∧B.length≤131072∧Step [] (LB++D) w0 w'
set_option maxHeartbeats 16000000 in
theorem build_spec{k:Nat} (hk1:1≤k) (hk:k≤32){v:Value}{l:List It} (w0:World) (hl:Its w0 v l) (hpl:∀x∈l,x.p.length<4294967281) (hroom:Room v) :
  CP 59 #[.int .i64 (k:Nat),v] w0 (BuildPost w0):=by
 have hs:Step [] [] w0 w0:=Step.refl w0
 have ob:=hl.sl.form
 obtain⟨av,cv,rfl⟩:=ob
 have hrm:l.length≤cv:=hroom
 have hzl:(u8s zD).length=32:=by simp[u8s,zD]
 refine calls (n:=82) Tryz.func59 rfl rfl rfl ?_
 refine sr<|WL.alloc ty44 rfl hs (fun b4 w hs=>?_)
 refine wA<|wA<|wZ ?_
 replace hs:Step [] ((b4,blk 44 (u8s zD))::[]) w0 w:=hs
 refine cq<|sr<|wm<|lF<|wm<|wy<|wm<|wy<|xF<|pF<|wZ<|CW.cond rfl (fun h=>?_) (fun h=>?_)
 ·cases h
 refine ck<|cq<|sr<|wm<|wE rfl (run_call en108 rfl rfl) (isTreeS_spec _ (hl.step0 hs.clear) hpl hroom) ?_
 rintro e w ⟨tb,rfl,htb,hq⟩
 refine⟨_,rfl,?_⟩
 replace hs:=hs.callE hq
 refine wN rfl<|wZ ?_
 cases tb with
 | false=>
  refine CW.cond rfl (fun h=>?_) (fun h=>?_)
  ·refine sr<|wV (run_build rfl (bld_dig _))<|WL.storeAll ty44 rfl rfl ((hzl)) ((Cells1.u8s _)) hs (by rfl) (fun w hs=>?_)
   refine wA<|wA<|wZ<|CW.ret ?_
   refine fin_cellTmp2 rfl rfl (run_loadVarN ty44 hzl hs.a0) ?_
   exact⟨zD,_,[],[],[],64,rfl,by simp[zD],OwnSl.nil _ _,(fun t ht=>by cases ht),by simp,hs.tail⟩
  ·cases h
 | true=>
 have ob:=htb rfl
 obtain⟨hll,hgood⟩:=ob
 refine CW.cond rfl (fun h=>?_) (fun h=>?_)
 ·cases h
 refine ck<|sr<|wm<|wm<|wE rfl (run_call en109 rfl rfl) (entries_spec hk1 hk hll hrm hgood l.length 0 (by omega) (Nat.zero_le _) [] (by simp) w (hl.step0 hs.clear)) ?_
 rintro e w ⟨v7,L7,El,v8,L8,B,D1,j,rfl,hE,hEo,hEl,hB,hBo,hBl,_,hjl,hq⟩
 refine⟨_,rfl,?_⟩
 replace hs:=Step.r1 (Step.call0 hs hq)
 refine wm<|wx rfl rfl<|wx rfl rfl<|wx rfl rfl<|wA<|wA<|wA<|wZ ?_
 have hes:Es w v7 El:=⟨hE.slW fun q hq=>hs.has q (by simp[hq]),hEo,by omega⟩
 refine sr<|wm<|wE rfl (run_call en57 rfl rfl) (encS_spec _ hes (hE.roomW (by omega))) ?_
 rintro e w ⟨v10,y,L10,er,rfl,_,_,hv10,hyl,hq2⟩
 refine⟨_,rfl,?_⟩
 replace hs:=Step.r2 (D:=D1++[]) (Step.call0 hs hq2)
 refine wm<|wx rfl rfl<|wx rfl rfl<|wA<|wA<|wZ ?_
 have ob:=hv10.form
 obtain⟨ya,yc,rfl⟩:=ob
 have hHy:Held (L10++D1) (.slice ya y.length yc) y:=⟨L10,hv10,fun q hq=>mem_append_left _ hq⟩
 refine sr<|wm<|wm<|WL.buildSlice (cs:=[.slice ya y.length yc]) (vs:=[(0,.slice ya y.length yc)]) u24 ty76 rfl (by decide) rfl (filled_s _ _ rfl) rfl hs (fun b41 w hs=>?_)
 have hsl41:Sl w 1 (.slice (some ⟨b41,0,none⟩) 1 1) 1 [Value.slice ya y.length yc]:=.own1 hs rfl
 replace hs:=Step.r3 hs
 refine WL.append u24 u24 ty76 rfl (by decide) rfl rfl (hB) (hs) (hsl41) (Cells1.of_all rfl) (by omega) rfl (fun v42 Lv42 w hv42 hs=>?_)
 refine wA<|wZ ?_
 replace hs:Step [] ((b4,blk 44 (u8s zD))::(Lv42++(L10++D1))) w0 w:=by have h:=Step.r4 hs;rwa [append_nil] at h
 have ob:∃B2,B++[(Value.slice ya y.length yc,y)]=B2:=⟨_,rfl⟩
 obtain⟨B2,hB2⟩:=ob
 have hB3:OwnSl 76 1 v42 B2.length (cellsB B2) Lv42:=by
  rw[←hB2,length_append,cellsB_snoc];exact hv42
 have hB3o:BOk (L10++D1) B2:=by
  rw[←hB2]
  exact(hBo.mono mem_right).app fun t ht=>by
   obtain rfl:=mem_singleton.1 ht
   exact⟨hHy,hyl⟩
 have hB3l:B2.length≤65536:=by rw[←hB2,length_append,length_singleton];omega
 have ob:=hB3.form
 obtain⟨ba,bc,rfl⟩:=ob
 refine sr<|wA<|wZ<|cq<|sr<|wA<|wZ<|cB<|CW.loop (fun z f w'=>∃i vo Lo O,i≤B2.length∧z=B2.length - i∧OwnSl 76 1 vo O.length (cellsB O) Lo∧BOk (L10++D1) O∧O.length≤i∧Step [] (Lo++((b4,blk 44 (u8s zD))::(Lv42++(L10++D1)))) w0 w'∧Holds f [(0,.int .i64 (k:Nat)),(4,pt b4),(8,.slice ba B2.length bc),(10,.slice ya y.length yc),(12,vo),(13,.int .i64 (i:Nat))]) (m:=B2.length) ?_ ?_
 ·exact⟨0,_,[],[],Nat.zero_le _,rfl,OwnSl.nil _ _,(fun t ht=>by cases ht),Nat.le_refl _,hs,rfl,rfl,rfl,rfl,rfl,rfl,trivial⟩
 clear hs
 rintro z f w ⟨i,vo,Lo,O,hi,rfl,hO,hOo,hOl,hs,hf⟩
 have ob:=hf.chain
 obtain⟨g,rfl⟩:=ob
 by_cases hlt:i<B2.length
 ·have ob:∃t,B2[i]?=some t:=⟨_,getElem?_eq_getElem hlt⟩
  obtain⟨t,ht⟩:=ob
  have hto:=hB3o t (mem_of_getElem? ht)
  have ob:=At.ownSl hB3 (w:=w) (fun q hq=>hs.has q (by simp[hq])) (by omega)
  obtain⟨bb,cb,hbe,hba⟩:=ob
  cases hbe
  have hbcell:∀{X:OL}{w':World},Step [] X w0 w'→(∀q∈Lv42,q∈X)→w'.cell? ⟨bb,0+i*1,none⟩=some t.1:=fun h hX=>by
   have ob:=At.ownSl hB3 (w:=_) (fun q hq=>h.has q (hX q hq)) (by omega)
   obtain⟨bb2,cb2,hbe2,hba2⟩:=ob
   cases hbe2
   exact cellsB_at hba2 ht
  have ob:=hto.1.form
  obtain⟨ta,tc,htf⟩:=ob
  have htsl:∀{X:OL}{w':World},Step [] X w0 w'→(∀q∈L10++D1,q∈X)→Sl w' 1 t.1 t.2.length (u8s t.2):=fun h hX=>hto.1.sl fun q hq=>h.has q (hX q hq)
  rw[htf] at hbcell htsl
  refine cq<|sr<|wm<|wm<|wL u24 rfl<|lT<|wZ<|CW.cond rfl (fun h=>?_) (fun h=>?_)
  ·refine ck<|cq<|cB<|sr<|wA<|wZ<|CW.seqM (fun f w'=>∃th,Step [] (Lo++((b4,blk 44 (u8s zD))::(Lv42++(L10++D1)))) w0 w'∧Holds f [(0,.int .i64 (k:Nat)),(4,pt b4),(8,.slice (some ⟨bb,0,none⟩) B2.length bc),(10,.slice ya y.length yc),(12,vo),(13,.int .i64 (i:Nat)),(14,.bool th)]) ?_ ?_
   ·have ob:=hO.form
    obtain⟨oa,oc,rfl⟩:=ob
    refine sr<|wA<|wZ<|cB<|CW.loop (fun z f w'=>∃q th,q≤O.length∧z=O.length - q∧Step [] (Lo++((b4,blk 44 (u8s zD))::(Lv42++(L10++D1)))) w0 w'∧Holds f [(0,.int .i64 (k:Nat)),(4,pt b4),(8,.slice (some ⟨bb,0,none⟩) B2.length bc),(10,.slice ya y.length yc),(12,.slice oa O.length oc),(13,.int .i64 (i:Nat)),(14,.bool th),(15,.int .i64 (q:Nat))]) (m:=O.length) ?_ ?_
    ·exact⟨0,false,Nat.zero_le _,rfl,hs,rfl,rfl,rfl,rfl,rfl,rfl,rfl,rfl,trivial⟩
    clear hs
    rintro z f w ⟨q,th,hq,rfl,hs,hf⟩
    have ob:=hf.chain
    obtain⟨g,rfl⟩:=ob
    by_cases hql:q<O.length
    ·have ob:∃u,O[q]?=some u:=⟨_,getElem?_eq_getElem hql⟩
     obtain⟨u,hu⟩:=ob
     have huo:=hOo u (mem_of_getElem? hu)
     have ob:=At.ownSl hO (w:=w) (fun q hq=>hs.has q (mem_append_left _ hq)) (by omega)
     obtain⟨bo,co,hoe,hoa⟩:=ob
     cases hoe
     have hocell:∀{X:OL}{w':World},Step [] X w0 w'→(∀q∈Lo,q∈X)→w'.cell? ⟨bo,0+q*1,none⟩=some u.1:=fun h hX=>by
      have ob:=At.ownSl hO (w:=_) (fun q hq=>h.has q (hX q hq)) (by omega)
      obtain⟨bb2,cb2,hbe2,hba2⟩:=ob
      cases hbe2
      exact cellsB_at hba2 hu
     have ob:=huo.1.form
     obtain⟨ua,uc,huf⟩:=ob
     have husl:∀{X:OL}{w':World},Step [] X w0 w'→(∀q∈L10++D1,q∈X)→Sl w' 1 u.1 u.2.length (u8s u.2):=fun h hX=>huo.1.sl fun q hq=>h.has q (hX q hq)
     rw[huf] at hocell husl
     refine cq<|sr<|wm<|wm<|wL u24 rfl<|lT<|wZ<|CW.cond rfl (fun h=>?_) (fun h=>?_)
     ·cases th with
      | true=>
       refine ck<|cq<|cB<|CW.quiet mixedP (by kernel_rfl) hs ?_
       refine qm<|qm<|qz<|qz<|qz<|qz<|qz<|qz<|qz<|qz<|qz<|qz<|qz<|qT ?_
       refine qA<|QL.nil (fun w hs=>?_)
       refine cr<|wm<|wP ((q+1:Nat):Int)<|wA<|wZ<|(show _∧_ from⟨rfl,_,?_,q+1,true,hql,rfl,hs,rfl,rfl,rfl,rfl,rfl,rfl,rfl,rfl,trivial⟩)
       omega
      | false=>
       refine ck<|cq<|cB<|CW.quiet mixedP (by kernel_rfl) hs ?_
       refine qm<|qm<|qy<|qm<|qy<|qm ?_
       refine qy ?_;(first | refine QL.val rfl (fun w hs=>run_ixSlN u24 ty76 rfl rfl (by omega)) ?_ | refine QL.val rfl (fun w hs=>run_ixSl u24 ty76 rfl rfl (by omega)) ?_)
       refine qy<|qL ty76 rfl (fun w hs=>hocell hs (fun q hq=>mem_append_left _ hq))<|qy<|qV (fun w hs=>run_toString u76 u9 u5 rfl (husl hs (fun q hq=>by simp only[mem_append,mem_cons] at hq⊢;rcases hq with hq | hq <;> simp[hq])))<|qy<|qm<|qy<|qm ?_
       refine qy ?_;(first | refine QL.val rfl (fun w hs=>run_ixSlN u24 ty76 rfl rfl (by omega)) ?_ | refine QL.val rfl (fun w hs=>run_ixSl u24 ty76 rfl rfl (by omega)) ?_)
       refine qy<|qL ty76 rfl (fun w hs=>hbcell hs (fun q hq=>by simp[hq]))<|qy<|qV (fun w hs=>run_toString u76 u9 u5 rfl (htsl hs (fun q hq=>by simp only[mem_append,mem_cons] at hq⊢;rcases hq with hq | hq <;> simp[hq])))<|qy<|qV (fun w hs=>run_strEq rfl rfl)<|qP<|qA<|QL.nil (fun w hs=>?_)
       refine cr<|wm<|wP ((q+1:Nat):Int)<|wA<|wZ<|(show _∧_ from⟨rfl,_,?_,q+1,_,hql,rfl,hs,rfl,rfl,rfl,rfl,rfl,rfl,rfl,rfl,trivial⟩)
       omega
     ·cases h
    ·obtain rfl:q=O.length:=by omega
     refine cq<|sr<|wm<|wm<|wL u24 rfl<|lF<|wZ<|CW.cond rfl (fun h=>?_) (fun h=>?_)
     ·cases h
     refine CW.exit ?_
     exact⟨rfl,th,hs,rfl,rfl,rfl,rfl,rfl,rfl,rfl,trivial⟩
   clear hs hf
   rintro f w ⟨th,hs,hf⟩
   have ob:=hf.chain
   obtain⟨g,rfl⟩:=ob
   cases th with
   | true=>
    refine sr<|wm<|wN rfl<|wZ<|CW.cond rfl (fun h=>?_) (fun h=>?_)
    ·cases h
    refine ck<|cr<|wm<|wP ((i+1:Nat):Int)<|wA<|wZ<|(show _∧_ from⟨rfl,_,?_,i+1,vo,Lo,O,hlt,rfl,hO,hOo,by omega,hs,rfl,rfl,rfl,rfl,rfl,rfl,trivial⟩)
    omega
   | false=>
    refine sr<|wm<|wN rfl<|wZ<|CW.cond rfl (fun h=>?_) (fun h=>?_)
    ·skip
     refine cr<|wm<|wm<|wm<|wI u24 ty76 rfl rfl<|wl ty76 rfl (hbcell hs (fun q hq=>by simp[hq]))<|WL.buildSlice (cs:=[.slice ta t.2.length tc]) (vs:=[(0,.slice ta t.2.length tc)]) u24 ty76 rfl (by decide) rfl (filled_s _ _ rfl) rfl hs (fun b76 w hs=>?_)
     have hsl76:Sl w 1 (.slice (some ⟨b76,0,none⟩) 1 1) 1 [Value.slice ta t.2.length tc]:=.own1 hs rfl
     replace hs:=Step.r5 (A:=Lo) (B:=Lv42) hs
     refine WL.append u24 u24 ty76 rfl (by decide) rfl rfl (hO) (hs) (hsl76) (Cells1.of_all rfl) (by omega) rfl (fun v77 Lv77 w hv77 hs=>?_)
     refine wA<|wZ ?_
     replace hs:=Step.r6 (A:=Lv77) (B:=Lv42) hs
     have hO2:OwnSl 76 1 v77 (O++[t]).length (cellsB (O++[t])) Lv77:=by
      rw[length_append,cellsB_snoc,htf];exact hv77
     refine cr<|wm<|wP ((i+1:Nat):Int)<|wA<|wZ<|(show _∧_ from⟨rfl,_,?_,i+1,v77,Lv77,O++[t],hlt,rfl,hO2,hOo.app (fun u hu=>by obtain rfl:=mem_singleton.1 hu;exact hto),?_,hs,rfl,rfl,rfl,rfl,rfl,rfl,trivial⟩)
     ·omega
     ·rw[length_append,length_singleton];omega
    ·cases h
  ·cases h
 ·obtain rfl:i=B2.length:=by omega
  replace hs:=Step.r7 (A:=Lo) (B:=Lv42) hs
  have hfr:=frontL_len (x:=y) hk
  have hfl:(u8s (frontL y k)).length=32:=by rw[u8s,length_map,hfr]
  refine cq<|sr<|wm<|wm<|wL u24 rfl<|lF<|wZ<|CW.cond rfl (fun h=>?_) (fun h=>?_)
  ·cases h
  refine CW.exit<|sr<|wm<|wm<|wE rfl (run_call en110 rfl rfl) (digest6_spec (x:=y) w (hv10.slW fun q hq=>hs.has q (by simp[hq])) (by omega) hk1 hk) ?_
  rintro e w ⟨rfl,hq3⟩
  refine⟨_,rfl,?_⟩
  replace hs:=hs.callE hq3
  refine wm<|WL.storeAll ty44 rfl rfl ((hfl)) ((Cells1.u8s _)) hs (by rfl) (fun w hs=>?_)
  refine wA<|wA<|wZ<|CW.ret ?_
  refine fin_cellTmp2 rfl rfl (run_loadVarN ty44 hfl hs.a0) ?_
  exact⟨frontL y k,vo,Lo,O,L10++D1,0,rfl,hfr,hO,hOo,by omega,(by
   have h:=hs.tail
   refine Step.dropL (L1:=Lv42) (h.perm ?_)
   exact perm_append_comm_assoc _ _ _)⟩
section
variable{S:List Nat}{A L L' R R' D D' W X:OL}{w0 w w':World}
theorem Lives.sub{L L2:OL}{w:World} (h:Lives L w) (hs:L2.Sublist L):Lives L2 w:=
 Step.own (L1:=L2) (L:=[]) (by
  rw[append_nil]
  exact(⟨h.chg,(h.nodup).sublist (hs.map _),fun p hp=>h.has p (hs.subset hp),fun p hp=>h.new p (hs.subset hp)⟩:Step (L.map (·.1)) L2 w w))
theorem Two.live (hs:Step S (A++(L++(R++D))) w0 w):Lives (L++D) w:=(Own.live hs).sub (by
 exact(List.Sublist.refl L).append (sublist_append_right R D))
theorem Two.rlive (hs:Step S (A++(L++(R++D))) w0 w):Lives (R++D) w:=Own.live (A:=A++L) (by rw[append_assoc];exact hs)
theorem Two.put (hs:Step S (A++(L++(R++D))) w0 w) (hq:Step (L.map (·.1)) (L'++D') w w'):Step S (A++(L'++(R++(D'++D)))) w0 w':=(Own.put hs hq).perm (by
 have h:(D'++R).Perm (R++D'):=perm_append_comm
 have h2:=(h.append_right D).append_left (A++L')
 simpa[append_assoc] using h2)
theorem Two.set (hs:Step S (A++(L++(R++D))) w0 w) (hq:Step (L.map (·.1)) L' w w'):Step S (A++(L'++(R++D))) w0 w':=Own.set hs hq
theorem Two.rput (hs:Step S (A++(L++(R++D))) w0 w) (hq:Step (R.map (·.1)) (R'++D') w w'):Step S (A++(L++(R'++(D'++D)))) w0 w':=by
 have h:=Own.put (A:=A++L) (L:=R) (by rw[append_assoc];exact hs) hq
 rwa [append_assoc] at h
theorem Two.rset (hs:Step S (A++(L++(R++D))) w0 w) (hq:Step (R.map (·.1)) R' w w'):Step S (A++(L++(R'++D))) w0 w':=by
 have h:=Own.set (A:=A++L) (L:=R) (by rw[append_assoc];exact hs) hq
 rwa [append_assoc] at h
theorem OutE.new{v:Value}{y:U8} (hs:Step S X w0 w) (h:Sl w0 1 v y.length (u8s y)) (hO:OutE v y S) (hL:∀p∈L,p∈X):OutE v y (L.map (·.1)):=by
 rcases hO with hO | hO
 ·exact .inl hO
 obtain⟨hl,⟨a,c,rfl,h0⟩ | ⟨b,off,c,rfl,hat⟩⟩:=h
 ·exact .inl (eq_nil_of_length_eq_zero h0)
 ·by_cases hy:y=[]
  ·exact .inl hy
  ·refine .inr fun hm=>?_
   have hb:=hat.lt (by simpa[u8s] using hy)
   have ob:=mem_map.1 hm
   obtain⟨p,hp,hpe⟩:=ob
   have hpe':p.1=b:=hpe
   rcases hs.new p (hL p hp) with h1 | h1
   ·exact hO (by rw[←hpe'];exact h1)
   ·omega
end
theorem put_len (s:AS) (hk:s.k≤32) (y:U8):(s.put y).1.length=32:=by
 have hgo:∀r:List UInt8×Nat×AS,r=(match ({ s with puts:=s.puts+1 }:AS).lay (frontL y s.k) y with | some s2=>(frontL y s.k,0,s2) | none=>(zD,43,{ s with puts:=s.puts+1 }))→r.1.length=32:=by
  intro r hr
  cases hl:({ s with puts:=s.puts+1 }:AS).lay (frontL y s.k) y with
  | none=>rw[hl] at hr;rw[hr];exact zD_len
  | some s2=>rw[hl] at hr;subst hr;exact frontL_len hk
 unfold AS.put
 simp only
 split
 ·exact zD_len
 ·split
  ·split
   ·exact frontL_len hk
   ·split
    ·exact zD_len
    ·exact hgo _ rfl
  ·exact hgo _ rfl
theorem plant_k' (s:AS) (d y:U8):(s.plant d y).2.k=s.k:=by
 unfold AS.plant
 split
 ·rfl
 ·split
  ·rfl
  ·split
   ·rename_i s2 hl
    exact(lay_k hl).trans rfl
   ·rfl
def Small (s:AS):Prop:=∀b∈s.X,b.x.length≤1048576
theorem Small.lay {s s':AS}{d x:U8} (h:Small s) (hx:x.length≤1048576) (hl:s.lay d x=some s'):Small s':=by
 unfold AS.lay at hl
 split at hl
 ·obtain rfl:=(Option.some.inj hl).symm
  exact fun b hb=>(insX_mem hb).elim (fun e=>by rw[e];exact hx) (h b)
 ·cases hl
theorem Small.put{s:AS} (h:Small s) (y:U8):Small (s.put y).2.2:=by
 have h1:Small { s with puts:=s.puts+1 }:=h
 unfold AS.put
 simp only
 split
 ·exact h1
 ·rename_i hy
  have hgo:∀{r:List UInt8×Nat×AS},r=(match ({ s with puts:=s.puts+1 }:AS).lay (frontL y s.k) y with | some s2=>(frontL y s.k,0,s2) | none=>(zD,43,{ s with puts:=s.puts+1 }))→Small r.2.2:=fun {r} hr=>by
   cases hl:({ s with puts:=s.puts+1 }:AS).lay (frontL y s.k) y with
   | none=>rw[hl] at hr;rw[hr];exact h1
   | some s2=>rw[hl] at hr;rw[hr];exact h1.lay (by omega) hl
  split
  ·split
   ·exact h1
   ·split
    ·exact h1
    ·exact hgo rfl
  ·exact hgo rfl
theorem Small.plant{s:AS} (h:Small s) (d y:U8):Small (s.plant d y).2:=by
 unfold AS.plant
 split
 ·exact h
 ·split
  ·exact h
  ·rename_i hy
   cases hl:s.lay d y with
   | none=>exact h
   | some s2=>exact h.lay (by omega) hl
theorem Small.evict{s:AS} (h:Small s) (d:U8):Small (s.evict d):=fun b hb=>h b (mem_filter.1 hb).1
theorem Small.new (k c:Nat):Small (newS k c):=fun b hb=>by cases hb
theorem Small.get{s:AS} (h:Small s) (d:U8):(s.get d).1.length≤1048576:=by
 unfold AS.get
 split
 ·exact Nat.zero_le _
 ·rename_i b hb
  split
  ·exact h b (findX_some hb).1
  ·exact Nat.zero_le _
def w8C (bp br:Nat) (vR:Value):List Value:=[.pointer (some ⟨bp,0,none⟩),.pointer (some ⟨br,0,none⟩),vR]
structure MX (bw bp br:Nat) (G:(List (Nat×Obj))) (w0:World) (s:AS) (roots:List (List UInt8)) (vR:Value) (LR L R D:(List (Nat×Obj))) (w:World):Prop where
 pr:PRep bp s D L
 rr:RRep br s D R
 ok:s.Ok
 small:Small s
 vr:OwnSl 44 32 vR roots.length (digsL roots) LR
 r32:∀d∈roots,d.length=32
 hs:Step [] (G++((bw,blk 42 (w8C bp br vR))::(LR++(L++(R++D))))) w0 w
section
variable{bw bp br n:Nat}{G A:OL}{w0 w w':World}{s:AS}{roots:List (List UInt8)}{vR v:Value}{LR L R D:OL}{y:U8}
theorem MX.add (h:MX bw bp br G w0 s roots vR LR L R D w) (hq:Step [] A w w'):MX bw bp br (A++G) w0 s roots vR LR L R D w':=⟨h.pr,h.rr,h.ok,h.small,h.vr,h.r32,by rw[append_assoc];exact Step.call0 h.hs hq⟩
theorem MX.drop (h:MX bw bp br (A++G) w0 s roots vR LR L R D w):MX bw bp br G w0 s roots vR LR L R D w:=⟨h.pr,h.rr,h.ok,h.small,h.vr,h.r32,Step.dropL (L1:=A) (by rw[←append_assoc];exact h.hs)⟩
theorem MX.get{p:Nat×Obj} (h:MX bw bp br G w0 s roots vR LR L R D w) (hp:p∈G):w.heap[p.1]?=some p.2:=h.hs.has p (mem_append_left _ hp)
theorem MX.wc (h:MX bw bp br G w0 s roots vR LR L R D w):At w bw 0 (w8C bp br vR):=At.of_blk (h.hs.has (bw,blk 42 (w8C bp br vR)) (by simp))
theorem perm_mx{α:Type}{G LR L R D:List α}{b:α}:(G++(b::(LR++(L++(R++D))))).Perm ((G++(b::LR))++(L++(R++D))):=by simp[append_assoc]
theorem MX.lives (h:MX bw bp br G w0 s roots vR LR L R D w):Lives (L++D) w:=Two.live (A:=G++(_::LR)) (h.hs.perm perm_mx)
theorem MX.rlives (h:MX bw bp br G w0 s roots vR LR L R D w):Lives (R++D) w:=Two.rlive (A:=G++(_::LR)) (h.hs.perm perm_mx)
def Src (G:(List (Nat×Obj))) (w0:World) (v:Value) (y:(List UInt8)):Prop:=Sl w0 1 v y.length (u8s y)∨Held G v y
theorem Src.sl{X:OL} (h:Src G w0 v y) (hs:Step [] X w0 w) (hG:∀p∈G,p∈X):Sl w 1 v y.length (u8s y):=by
 rcases h with h | h
 ·exact h.step0 hs
 ·exact h.sl fun p hp=>hs.has p (hG p hp)
theorem Src.out{M Y:OL} (h:Src G w0 v y) (hs:Step [] (M++(G++Y)) w0 w):OutE v y (M.map (·.1)):=by
 rcases h with h | h
 ·exact OutE.new hs h (.inr (outside_nil _)) fun p hp=>mem_append_left _ hp
 ·refine .inr (h.out fun p hp hm=>?_)
  have hn:=hs.nodup
  rw[map_append,nodup_append] at hn
  exact hn.2.2 p.1 hm p.1 (mem_map_of_mem (mem_append_left _ hp)) rfl
theorem perm_o1{α:Type}{G LR L R D:List α}{b:α}:(G++(b::(LR++(L++(R++D))))).Perm (L++(G++(b::(LR++(R++D))))):=by
 classical exact perm_iff_count.2 fun x=>by simp only[count_append,count_cons];omega
theorem perm_o2{α:Type}{G LR L R D:List α}{a b:α}:(a::((G++(b::LR))++(L++(R++D)))).Perm (R++(G++(a::b::(LR++(L++D))))):=by
 classical exact perm_iff_count.2 fun x=>by simp only[count_append,count_cons];omega
theorem perm_o3{α:Type}{G LR L R D:List α}{a c b:α}:(c::a::((G++(b::LR))++(L++(R++D)))).Perm (c::a::(G++(b::(LR++(L++(R++D)))))):=by
 classical exact perm_iff_count.2 fun x=>by simp only[count_append,count_cons];omega
set_option maxHeartbeats 8000000 in
theorem MX.put (h:MX bw bp br G w0 s roots vR LR L R D w) (few:s.Few n) (hn:n<1000000000) (hv:Src G w0 v y) (hr:Room v) (hy:y.length<1099511627776) :
  CP 60 #[pt bw,v] w fun e w'=>e=.returned (.bool true)∧∃L' R' D',MX bw bp br G w0 (s.put y).2.2 roots vR LR L' R' D' w':=by
 have hs:=h.hs
 have ok:=h.ok
 have hpl:=put_len s ok.k2 y
 have hdl:(u8s (s.put y).1).length=32:=by rw[u8s,length_map,hpl]
 have hput:=put_abs h.pr ok few (by omega) h.lives (hv.sl hs fun p hp=>mem_append_left _ hp) hr (hv.out (hs.perm perm_o1)) hy
 have hrput:=fun{w1:World}{D1:OL} h1 h2 h3=>rput_abs (w0:=w1) (h.rr.mono (D':=D1++D) mem_right) ok few (by omega) h1 (y:=y) (v:=v) h2 h3 hy
 have hok:=ok.put y
 have hsm:=h.small.put y
 have ob:∃r,s.put y=r:=⟨_,rfl⟩
 obtain⟨r,hre⟩:=ob
 simp only[hre] at hput hrput hpl hdl hok hsm
 rw[hre]
 replace hs:=hs.perm perm_mx
 refine calls (n:=35) Tryz.func60 rfl rfl rfl ?_
 refine sr<|wA<|wZ<|sr<|wm<|wn rfl<|wF 0 u42 rfl ty39 rfl<|wl ty39 rfl ((h.wc.cell (j:=0) rfl))<|wm<|wE rfl (run_call en36 rfl rfl) (hput) ?_
 rintro e w ⟨L1,D1,rfl,hP1,hq⟩
 refine⟨_,rfl,?_⟩
 replace hs:=Two.put hs hq
 refine wm<|wx rfl rfl<|wx rfl rfl<|WL.alloc ty44 rfl hs (fun b5 w hs=>?_)
 refine WL.storeAll ty44 rfl rfl ((hdl)) ((Cells1.u8s _)) hs (by rfl) (fun w hs=>?_)
 refine wA<|wZ ?_
 have hwc:At w bw 0 (w8C bp br vR):=At.of_blk (hs.has (bw,blk 42 (w8C bp br vR)) (by simp))
 refine sr<|wm<|wn rfl<|wF 1 u42 rfl ty40 rfl<|wl ty40 rfl ((hwc.cell (j:=1) rfl))<|wm<|wE rfl (run_call en74 rfl rfl) (hrput (Two.rlive (A:=_::(G++(_::LR))) hs) (hv.sl hs fun p hp=>by simp[hp]) (hv.out (hs.perm perm_o2))) ?_
 rintro e w ⟨R1,D2,rfl,hR1,hq2⟩
 refine⟨_,rfl,?_⟩
 replace hs:=Two.rput (A:=_::(G++(_::LR))) hs hq2
 refine wm<|wx rfl rfl<|wx rfl rfl<|WL.alloc ty44 rfl hs (fun b7 w hs=>?_)
 refine WL.storeAll ty44 rfl rfl ((hdl)) ((Cells1.u8s _)) hs (by rfl) (fun w hs=>?_)
 refine wA<|wZ<|sr<|wR ty44 rfl hdl hs.a1<|wR ty44 rfl hdl hs.a0<|wV (run_bT (run_eqDig hpl hpl rfl rfl) rfl)<|wm<|wy<|wm<|wy<|wm<|wy<|wV (run_bT (run_eql rfl rfl) (by rfl))<|pT<|wA<|wZ ?_
 refine CW.ret ?_
 refine fin_ret1 rfl ?_
 have hs2:=(hs.perm perm_o3).tail.tail
 exact⟨rfl,L1,R1,D2++(D1++D),hP1.mono mem_right,hR1,hok,hsm,h.vr,h.r32,hs2⟩
end
theorem RRep.look{br:Nat}{s:AS}{D R:OL} (h:RRep br s D R) (hl:∀b∈s.X,b.d.length=32) :
  ∃a c,s.X.length≤c∧∀{w:World},(∀p∈R,w.heap[p.1]?=some p.2)→At w br 0 (rsC s.k s.cap s.last (.slice a s.X.length c) s.gets s.puts)∧∀(i:Nat) (b:Blb),s.X[i]?=some b→∃bx,a=some ⟨bx,0,none⟩∧At w bx (0+i*34) (u8s b.d):=by
 obtain⟨v,Lv,T,rfl,ho,hv⟩:=h
 have ob:=ho.form
 obtain⟨a,c,rfl⟩:=ob
 have hroom:s.X.length≤c:=ho.roomW (by omega)
 refine⟨a,c,hroom,fun {w} hw=>⟨At.of_blk (hw (br,blk 54 (rsC s.k s.cap s.last (.slice a s.X.length c) s.gets s.puts)) (by simp)),fun i b hb=>?_⟩⟩
 have hlt:=(List.getElem?_eq_some_iff.1 hb).1
 have ob:=At.ownSl ho (w:=w) (fun p hp=>hw p (by simp[hp])) (by omega)
 obtain⟨bx,cx,hbe,hat⟩:=ob
 cases hbe
 have ob:=hv.at hb
 obtain⟨t,ht,h1,h2,h3⟩:=ob
 refine⟨bx,rfl,?_⟩
 have h4:=(hat.rowT (hv.len32 hl) ht).take 32
 rw[rbC_fst (by rw[h1];exact hl b (mem_of_getElem? hb)),h1] at h4
 exact h4
def d123:(List UInt8):=[1,2,3]++List.replicate 29 0
theorem bld_d123 (w:World):(Instr.build 44 #[(0,.int .u8 1),(1,.int .u8 2),(2,.int .u8 3)]).run Tryz.prog w=.ok (.agg (u8s d123).toArray) w:=by kernel_rfl
def rootF (roots:List (List UInt8)) (X:List Blb) (z:Int):(List UInt8):=
 if roundZ z (2*roots.length+X.length+1)<2*roots.length then roots.getD (roundZ z (2*roots.length+X.length+1) % roots.length) zD
 else if roundZ z (2*roots.length+X.length+1) - 2*roots.length<X.length then ((X[roundZ z (2*roots.length+X.length+1) - 2*roots.length]?).map (·.d)).getD zD
 else d123
theorem rootF_len{roots:List (List UInt8)}{X:List Blb} (hr:∀d∈roots,d.length=32) (hX:∀b∈X,b.d.length=32) (z:Int):(rootF roots X z).length=32:=by
 have hz:zD.length=32:=by simp[zD]
 unfold rootF
 split
 ·rw[getD_eq_getElem?_getD]
  cases h:roots[roundZ z (2*roots.length+X.length+1) % roots.length]? with
  | none=>exact hz
  | some d=>exact hr d (mem_of_getElem? h)
 ·split
  ·cases h:X[roundZ z (2*roots.length+X.length+1) - 2*roots.length]? with
   | none=>exact hz
   | some b=>exact hX b (mem_of_getElem? h)
  ·simp[d123]
section
variable{bw bp br n:Nat}{G A:OL}{w0 w w':World}{s:AS}{roots:List (List UInt8)}{vR v:Value}{LR L R D:OL}{y:U8}{z:Int}
theorem perm_rm{α:Type}{G LR L R D:List α}{b p:α} (hp:p∈R):p∈(G++(b::(LR++(L++(R++D))))):=by simp[hp]
set_option maxHeartbeats 8000000 in
theorem root8_spec (hwc:At w bw 0 (w8C bp br vR)) (hdg:Dgs w vR roots) (hrr:RRep br s D R) (hR:∀p∈R,w.heap[p.1]?=some p.2) (ok:s.Ok) (hl:roots.length≤1000000) (hz : -9223372036854775808≤z∧z≤9223372036854775807) :
  CP 18 #[pt bw,.int .i64 z] w (Ret0 (.agg (u8s (rootF roots s.X z)).toArray) w):=by
 have hs:Step [] [] w w:=Step.refl w
 have ob:=hrr.look ok.len
 obtain⟨xa,xc,hxc,hlook⟩:=ob
 have ob:=hlook (w:=w) hR
 obtain⟨hrc,hrow⟩:=ob
 have hxl:=used_len s.X
 have hxu:=ok.used
 have ob:=hdg.form
 obtain⟨va,vc,rfl⟩:=ob
 have ob:∃m,2*roots.length+s.X.length+1=m:=⟨_,rfl⟩
 obtain⟨m,hm⟩:=ob
 have hrnd:=fun w=>roundL_spec (a:=z) (n:=m) (by omega) (by omega) hz w
 have hrlt:=roundZ_lt (a:=z) (n:=m) (by omega)
 have hlen:=rootF_len (z:=z) hdg.len ok.len
 have ob:∃d,rootF roots s.X z=d:=⟨_,rfl⟩
 obtain⟨d,hd⟩:=ob
 have hd0:=hd
 unfold rootF at hd
 rw[hm] at hd
 rw[hd0] at hlen⊢
 have ob:∃k,roundZ z m=k:=⟨_,rfl⟩
 obtain⟨k,hk⟩:=ob
 rw[hk] at hrlt hd
 simp only[hk] at hrnd
 have hdl:(u8s d).length=32:=by rw[u8s,length_map,hlen]
 have hzl:(u8s zD).length=32:=by simp[u8s,zD]
 refine calls (n:=67) Tryz.func18 rfl rfl rfl ?_
 refine sr<|WL.alloc ty44 rfl hs (fun b4 w hs=>?_)
 refine wZ<|sr<|wm<|wn rfl<|wF 2 u42 rfl ty35 rfl<|wl ty35 rfl (((hwc.step hs.clear (by simp)).cell (j:=2) rfl))<|wL u35 rfl<|wA<|wZ<|sr<|wm<|wm<|wV (run_mul (c:=((2*roots.length:Nat):Int)) rfl rfl (by omega) (by omega))<|wm<|wn rfl<|wF 1 u42 rfl ty40 rfl<|wl ty40 rfl (((hwc.step hs.clear (by simp)).cell (j:=1) rfl))<|wn rfl<|wF 3 u54 rfl ty52 rfl<|wl ty52 rfl (((hrc.step hs.clear (by simp)).cell (j:=3) rfl))<|wL u52 rfl<|wP ((2*roots.length+s.X.length:Nat):Int) ?_
 refine wP ((m:Nat):Int)<|wE rfl (run_call en46 rfl rfl) (hrnd _) ?_
 rintro e w ⟨rfl,hq⟩
 refine⟨_,rfl,?_⟩
 replace hs:=hs.callE hq
 refine wA<|wZ ?_
 by_cases c1:k<2*roots.length
 ·rw[if_pos c1] at hd
  have hkn:k % roots.length<roots.length:=Nat.mod_lt _ (by omega)
  have hkd:roots[k % roots.length]?=some d:=by
   rw[getD_eq_getElem?_getD,getElem?_eq_getElem hkn,Option.getD_some] at hd
   rw[getElem?_eq_getElem hkn,hd]
  have ob:=hdg.at hkd
  obtain⟨b,off,c,hbe,hat⟩:=ob
  cases hbe
  refine cq<|sr<|wm<|wm<|wV (run_mul (c:=((2*roots.length:Nat):Int)) rfl rfl (by omega) (by omega))<|lT<|wZ<|CW.cond rfl (fun h=>?_) (fun h=>?_)
  ·refine cq<|CW.quietT (l1:=[_,_,_,_,_,_,_,_,_]) (l2:=[_]) 9 rfl mixedP rfl (by kernel_rfl) hs ?_
   refine qm<|qn rfl<|qF 2 u42 rfl ty35 rfl<|qL ty35 rfl (fun w hs=>(hwc.step hs.clear (by simp)).cell (j:=2) rfl)<|qm<|qm<|qV (fun w hs=>run_remN (n:=k) (m:=roots.length) rfl rfl (by omega))<|qI u35 ty44 rfl rfl<|qV (fun w hs=>run_loadN ty44 rfl hdl (hat.step hs.clear (by simp)))<|QL.nil (fun w hs=>?_)
   refine WL.storeAll ty44 rfl rfl ((hdl)) ((Cells1.u8s _)) hs (by rfl) (fun w hs=>?_)
   refine wZ<|CW.ret ?_
   refine fin_cell1 rfl rfl (run_loadVarN ty44 (by assumption) hs.a0) ?_
   exact⟨rfl,hs.clear⟩
  ·cases h
 rw[if_neg c1] at hd
 by_cases c2:k - 2*roots.length<s.X.length
 ·rw[if_pos c2,getElem?_eq_getElem c2,Option.map_some,Option.getD_some] at hd
  have ob:=hrow (k - 2*roots.length) _ (getElem?_eq_getElem c2)
  obtain⟨bx,hbe,hat⟩:=ob
  subst hbe
  rw[hd] at hat
  refine cq<|sr<|wm<|wm<|wV (run_mul (c:=((2*roots.length:Nat):Int)) rfl rfl (by omega) (by omega))<|lF<|wZ<|CW.cond rfl (fun h=>?_) (fun h=>?_)
  ·cases h
  refine ck<|cq<|sr<|wm<|wm<|wV (run_mul (c:=((2*roots.length:Nat):Int)) rfl rfl (by omega) (by omega))<|wS ((k - 2*roots.length:Nat):Int)<|wm<|wn rfl<|wF 1 u42 rfl ty40 rfl<|wl ty40 rfl (((hwc.step hs.clear (by simp)).cell (j:=1) rfl))<|wn rfl<|wF 3 u54 rfl ty52 rfl<|wl ty52 rfl (((hrc.step hs.clear (by simp)).cell (j:=3) rfl))<|wL u52 rfl<|lT<|wZ ?_
  refine CW.cond rfl (fun h=>?_) (fun h=>?_)
  ·refine sr<|wm<|wn rfl<|wF 1 u42 rfl ty40 rfl<|wl ty40 rfl (((hwc.step hs.clear (by simp)).cell (j:=1) rfl))<|wn rfl<|wF 3 u54 rfl ty52 rfl<|wl ty52 rfl (((hrc.step hs.clear (by simp)).cell (j:=3) rfl))<|wm<|wm<|wV (run_mul (c:=((2*roots.length:Nat):Int)) rfl rfl (by omega) (by omega))<|wS ((k - 2*roots.length:Nat):Int)<|wI u52 ty80 rfl rfl<|wF 0 u80 rfl ty44 rfl<|wR ty44 rfl hdl (hat.step hs.clear (by simp)) ?_
   refine WL.storeAll ty44 rfl rfl ((hdl)) ((Cells1.u8s _)) hs (by rfl) (fun w hs=>?_)
   refine wZ<|CW.ret ?_
   refine fin_cell1 rfl rfl (run_loadVarN ty44 (by assumption) hs.a0) ?_
   exact⟨rfl,hs.clear⟩
  ·cases h
 rw[if_neg c2] at hd
 subst hd
 refine cq<|sr<|wm<|wm<|wV (run_mul (c:=((2*roots.length:Nat):Int)) rfl rfl (by omega) (by omega))<|lF<|wZ<|CW.cond rfl (fun h=>?_) (fun h=>?_)
 ·cases h
 refine ck<|cq<|sr<|wm<|wm<|wV (run_mul (c:=((2*roots.length:Nat):Int)) rfl rfl (by omega) (by omega))<|wS ((k - 2*roots.length:Nat):Int)<|wm<|wn rfl<|wF 1 u42 rfl ty40 rfl<|wl ty40 rfl (((hwc.step hs.clear (by simp)).cell (j:=1) rfl))<|wn rfl<|wF 3 u54 rfl ty52 rfl<|wl ty52 rfl (((hrc.step hs.clear (by simp)).cell (j:=3) rfl))<|wL u52 rfl<|lF<|wZ ?_
 refine CW.cond rfl (fun h=>?_) (fun h=>?_)
 ·cases h
 refine ck<|sr<|wV (run_build rfl (bld_d123 _))<|WL.storeAll ty44 rfl rfl ((hdl)) ((Cells1.u8s _)) hs (by rfl) (fun w hs=>?_)
 refine wZ<|CW.ret ?_
 refine fin_cell1 rfl rfl (run_loadVarN ty44 (by rfl) hs.a0) ?_
 exact⟨rfl,hs.clear⟩
end
structure Stup where
 cap:Int
 vT:Value
 T:List (Value×List It)
 vN:Value
 N:List (Value×List Ent)
 vB:Value
 B:BL
 vE:Value
 E:List Int
 vP:Value
 P:List (Int×Value×(List UInt8))
def Stup.cells (x:Stup):List Value:=[.int .i64 x.cap,x.vT,x.vN,x.vB,x.vE,x.vP]
def plC (t:Int×Value×(List UInt8)):List Value:=[.int .i64 t.1,t.2.1]
structure Stup.Ok (w:World) (x:Stup):Prop where
 cap : -9223372036854775808≤x.cap∧x.cap≤9223372036854775807
 sT:Sl w 1 x.vT x.T.length (x.T.map (·.1))
 T:∀t∈x.T,Its w t.1 t.2∧Room t.1∧∀y∈t.2,y.p.length<4294967281
 sN:Sl w 1 x.vN x.N.length (x.N.map (·.1))
 N:∀t∈x.N,Es w t.1 t.2∧Room t.1
 sB:Sl w 1 x.vB x.B.length (x.B.map (·.1))
 B:∀t∈x.B,Sl w 1 t.1 t.2.length (u8s t.2)∧Room t.1
 sE:Sl w 1 x.vE x.E.length (x.E.map fun z=>.int .i64 z)
 E:∀z∈x.E,-9223372036854775808≤z∧z≤9223372036854775807
 sP:Sl w 2 x.vP x.P.length (x.P.flatMap plC)
 P:∀t∈x.P,(-9223372036854775808≤t.1∧t.1≤9223372036854775807)∧Sl w 1 t.2.1 t.2.2.length (u8s t.2.2)∧Room t.2.1
theorem sl_at1{α:Type}{c:α→Value}{w:World}{v:Value}{l:List α} (h:Sl w 1 v l.length (l.map c)){i:Nat}{t:α} (ht:l[i]?=some t):∃b off cc,v=.slice (some ⟨b,off,none⟩) l.length cc∧w.cell? ⟨b,off+i*1,none⟩=some (c t):=by
 obtain⟨_,⟨a,cc,rfl,h0⟩ | ⟨b,off,cc,rfl,ha⟩⟩:=h
 ·rw[eq_nil_of_length_eq_zero h0] at ht;simp at ht
 ·refine⟨b,off,cc,rfl,ha.cell (j:=i*1) ?_⟩
  rw[Nat.mul_one,getElem?_map,ht];rfl
theorem plC_at:∀{l:List (Int×Value×List UInt8)}{w:World}{b off:Nat},At w b off (l.flatMap plC)→∀{i:Nat}{t:Int×Value×List UInt8},l[i]?=some t→At w b (off+i*2) (plC t)
 | [],w,b,off,_,i,d,h=>by simp at h
 | x::l,w,b,off,ha,0,d,h=>by
  rw[getElem?_cons_zero] at h
  obtain rfl:=Option.some.inj h
  rw[Nat.zero_mul,Nat.add_zero]
  rw[flatMap_cons] at ha
  exact ha.left
 | x::l,w,b,off,ha,i+1,d,h=>by
  rw[flatMap_cons] at ha
  have h2:=ha.right
  have h3:=plC_at (l:=l) h2 (i:=i) (t:=d) h
  rw[show off+(i+1)*2=off+(plC x).length+i*2 by show off+(i+1)*2=off+2+i*2;omega]
  exact h3
theorem sl_atP{w:World}{v:Value}{l:List (Int×Value×List UInt8)} (h:Sl w 2 v l.length (l.flatMap plC)){i:Nat}{t:Int×Value×List UInt8} (ht:l[i]?=some t):∃b off cc,v=.slice (some ⟨b,off,none⟩) l.length cc∧At w b (off+i*2) (plC t):=by
 obtain⟨_,⟨a,cc,rfl,h0⟩ | ⟨b,off,cc,rfl,ha⟩⟩:=h
 ·rw[eq_nil_of_length_eq_zero h0] at ht;simp at ht
 ·exact⟨b,off,cc,rfl,plC_at ha ht⟩
theorem keep1{S:List Nat}{L:OL}{w w':World}{b o:Nat}{v:Value} (h:w.cell? ⟨b,o,none⟩=some v) (hs:Step [] L w w'):w'.cell? ⟨b,o,none⟩=some v:=keepCell h hs
def MI (bw bp br k:Nat) (G:(List (Nat×Obj))) (w0:World) (n m:Nat) (w:World):Prop:=∃s roots vR LR L R D,MX bw bp br G w0 s roots vR LR L R D w∧s.Few n∧s.k=k∧roots.length≤m
section
variable{bw bp br k n m:Nat}{G A:OL}{w0 w w':World}{v:Value}{y:U8}
theorem MI.get{p:Nat×Obj} (h:MI bw bp br k G w0 n m w) (hp:p∈G):w.heap[p.1]?=some p.2:=by
 obtain⟨s,roots,vR,LR,L,R,D,hM,_⟩:=h
 exact hM.get hp
theorem MI.base (h:MI bw bp br k G w0 n m w):Step [] [] w0 w:=by
 obtain⟨s,roots,vR,LR,L,R,D,hM,_⟩:=h
 exact hM.hs.clear
theorem MI.mono {n' m':Nat} (h:MI bw bp br k G w0 n m w) (hn:n≤n') (hm:m≤m'):MI bw bp br k G w0 n' m' w:=by
 obtain⟨s,roots,vR,LR,L,R,D,hM,h1,h2,h3⟩:=h
 exact⟨s,roots,vR,LR,L,R,D,hM,h1.mono hn,h2,by omega⟩
theorem MI.drop (h:MI bw bp br k (A++G) w0 n m w):MI bw bp br k G w0 n m w:=by
 obtain⟨s,roots,vR,LR,L,R,D,hM,h1⟩:=h
 exact⟨s,roots,vR,LR,L,R,D,hM.drop,h1⟩
theorem MI.add (h:MI bw bp br k G w0 n m w) (hq:Step [] A w w'):MI bw bp br k (A++G) w0 n m w':=by
 obtain⟨s,roots,vR,LR,L,R,D,hM,h1⟩:=h
 exact⟨s,roots,vR,LR,L,R,D,hM.add hq,h1⟩
theorem MI.put (h:MI bw bp br k G w0 n m w) (hn:n<1000000000) (hv:Src G w0 v y) (hr:Room v) (hy:y.length<1099511627776) :
  CP 60 #[pt bw,v] w fun e w'=>e=.returned (.bool true)∧MI bw bp br k G w0 (n+1) m w':=by
 obtain⟨s,roots,vR,LR,L,R,D,hM,few,hk,hl⟩:=h
 refine(hM.put few hn hv hr hy).mono ?_
 rintro e w' ⟨he,L',R',D',h2⟩
 exact⟨he,_,roots,vR,LR,L',R',D',h2,few.put y,by rw[put_k];exact hk,hl⟩
end
theorem bld_w8 (a b:Option Addr) (w:World):(Instr.build 42 #[(0,.pointer a),(1,.pointer b)]).run Tryz.prog w=.ok (.agg #[.pointer a,.pointer b,.slice none 0 0]) w:=by kernel_rfl
section
variable{S:List Nat}{A B C D E F G X Y LR:OL}{a b c:Nat×Obj}{w w':World}
theorem Step.in3 (h:Step S (a::b::c::(A++X)) w w'):Step S (A++(a::b::c::X)) w w':=h.perm (perm_append_comm_assoc [a,b,c] A X)
theorem Step.out3 (h:Step S (A++(a::b::c::X)) w w'):Step S (b::c::(A++X)) w w':=Step.tail (p:=a) (h.perm (perm_append_comm_assoc A [a,b,c] X))
theorem Step.s1 (h:Step S (a::(Y++(b::(LR++X)))) w w'):Step S (a::b::(LR++(Y++X))) w w':=h.perm (by classical exact perm_iff_count.2 fun x=>by simp only[count_append,count_cons];omega)
theorem Step.s2 (h:Step S (a::b::(LR++(Y++X))) w w'):Step S (Y++(b::(LR++X))) w w':=Step.tail (p:=a) (h.perm (by classical exact perm_iff_count.2 fun x=>by simp only[count_append,count_cons];omega))
theorem Step.s4 (h:Step S (Y++(b::(LR++X))) w w'):Step S (b::(LR++(Y++X))) w w':=h.perm (by classical exact perm_iff_count.2 fun x=>by simp only[count_append,count_cons];omega)
theorem Step.s5 (h:Step S (b::(LR++(Y++X))) w w'):Step S (Y++(b::(LR++X))) w w':=h.perm (by classical exact perm_iff_count.2 fun x=>by simp only[count_append,count_cons];omega)
theorem Step.out2b (h:Step S (A++(a::b::X)) w w'):Step S (b::(A++X)) w w':=Step.tail (p:=a) (h.perm (perm_append_comm_assoc A [a,b] X))
end
theorem made8_bad{k c:Int} (h:(k<1∨32<k)∨¬(0≤c∧c≤67108864)){x:Stup} (hx:x.cap=c) (w0:World):CP 16 #[.int .i64 k,.agg x.cells.toArray] w0 (Ret0 (.tuple #[.pointer none,.bool true]) w0):=by
 have hs:Step [] [] w0 w0:=Step.refl w0
 obtain⟨er,h1,h2⟩:∃er:Nat,(∀w,CP 56 #[.int .i64 k,.int .i64 c] w (Ret0 (.tuple #[.pointer none,.int .i64 (er:Nat)]) w))∧(∀w,CP 58 #[.int .i64 k,.int .i64 c] w (Ret0 (.tuple #[.pointer none,.int .i64 (er:Nat)]) w)):=by
  by_cases hk:k<1∨32<k
  ·exact⟨3,fun w=>new_width hk w,fun w=>rnew_width hk w⟩
  ·have hc:¬(0≤c∧c≤67108864):=by omega
   have ob:∃m:Nat,k=m:=⟨k.toNat,by omega⟩
   obtain⟨m,rfl⟩:=ob
   exact⟨1,fun w=>new_arg (by omega) (by omega) hc w,fun w=>rnew_arg (by omega) (by omega) hc w⟩
 subst hx
 refine calls (n:=288) Tryz.func16 rfl rfl rfl ?_
 refine sr<|WL.box (cs:=x.cells) rfl rfl rfl hs (fun b3 w hs=>?_)
 refine wA<|wA<|wZ<|sr<|wm<|wF 0 u28 rfl ty3 rfl<|wl ty3 rfl (hs.c0 (v:=.int .i64 x.cap) rfl)<|wE rfl (run_call en56 rfl rfl) (h1 _) ?_
 rintro e w ⟨rfl,hq⟩
 refine⟨_,rfl,?_⟩
 replace hs:=hs.callE hq
 refine wm<|wx rfl rfl<|wx rfl rfl<|wA<|wA<|wZ<|sr<|wm<|wF 0 u28 rfl ty3 rfl<|wl ty3 rfl (hs.c0 (v:=.int .i64 x.cap) rfl)<|wE rfl (run_call en58 rfl rfl) (h2 _) ?_
 rintro e w ⟨rfl,hq⟩
 refine⟨_,rfl,?_⟩
 replace hs:=hs.callE hq
 refine wm<|wx rfl rfl<|wx rfl rfl<|wA<|wA<|wZ<|cq<|sr<|wm<|wm<|wV (run_bF (run_neq rfl rfl) (by exact fun h=>h rfl))<|wm<|wy<|wm ?_
 refine wy<|wV (run_nilNil u39 rfl rfl)<|wy<|wm<|wy<|wV (run_nilNil u40 rfl rfl)<|wy<|wV (run_neqB u4 rfl rfl)<|pF<|wZ<|CW.cond rfl (fun h3=>?_) (fun h3=>?_)
 ·cases h3
 refine ck<|cq<|sr<|wm<|wV (run_nilNil u39 rfl rfl)<|wZ<|CW.cond rfl (fun h4=>?_) (fun h4=>?_)
 ·refine sr<|wA<|wA<|wZ<|CW.ret ?_
  refine fin_ret2 rfl ?_
  exact⟨rfl,hs.clear⟩
 ·cases h4
theorem sl_form{w:World}{sz n:Nat}{v:Value}{cs:List Value} (h:Sl w sz v n cs):∃a c,v=.slice a n c:=by
 obtain⟨_,⟨a,c,rfl,h0⟩ | ⟨b,off,c,rfl,_⟩⟩:=h
 ·exact⟨a,c,by rw[h0]⟩
 ·exact⟨_,c,rfl⟩
theorem mem_y{b p:Nat×Obj}{LR Y Z:OL} (h:p∈Y):p∈b::(LR++(Y++Z)):=by simp[h]
theorem xcell{x:Stup}{w:World}{b3:Nat} (h:w.heap[b3]?=some (blk 28 x.cells)){j:Nat}{v:Value} (hj:x.cells[j]?=some v):w.cell? ⟨b3,0+j,none⟩=some v:=(At.of_blk h).cell hj
set_option maxHeartbeats 64000000 in
theorem made8_spec{k c:Nat} (hk1:1≤k) (hk:k≤32) (hc:c≤67108864){x:Stup} (hxc:x.cap=c) (w0:World) (hx:x.Ok w0):CP 16 #[.int .i64 (k:Nat),.agg x.cells.toArray] w0 fun e w'=>∃bw bp br,e=.returned (.tuple #[pt bw,.bool true])∧MI bw bp br k [] w0 100000000 400 w':=by
 have hs:Step [] [] w0 w0:=Step.refl w0
 have ob:=sl_form hx.sT
 obtain⟨Ta,Tc,hvT⟩:=ob
 have ob:=sl_form hx.sN
 obtain⟨Na,Nc,hvN⟩:=ob
 have ob:=sl_form hx.sB
 obtain⟨Ba,Bc,hvB⟩:=ob
 have ob:=sl_form hx.sE
 obtain⟨Ea,Ec,hvE⟩:=ob
 have ob:=sl_form hx.sP
 obtain⟨Pa,Pc,hvP⟩:=ob
 have hT1:x.cells[1]?=some (.slice Ta x.T.length Tc):=by rw[←hvT];rfl
 have hN2:x.cells[2]?=some (.slice Na x.N.length Nc):=by rw[←hvN];rfl
 have hB3:x.cells[3]?=some (.slice Ba x.B.length Bc):=by rw[←hvB];rfl
 have hE4:x.cells[4]?=some (.slice Ea x.E.length Ec):=by rw[←hvE];rfl
 have hP5:x.cells[5]?=some (.slice Pa x.P.length Pc):=by rw[←hvP];rfl
 have hsT:=hx.sT
 have hsN:=hx.sN
 have hsB:=hx.sB
 have hsE:=hx.sE
 have hsP:=hx.sP
 rw[hvT] at hsT
 rw[hvN] at hsN
 rw[hvB] at hsB
 rw[hvE] at hsE
 rw[hvP] at hsP
 refine calls (n:=288) Tryz.func16 rfl rfl rfl ?_
 refine sr<|WL.box (cs:=x.cells) rfl rfl rfl hs (fun b3 w hs=>?_)
 refine wA<|wA<|wZ<|sr<|wm<|wF 0 u28 rfl ty3 rfl<|wl ty3 rfl (hs.c0 (v:=.int .i64 (c:Nat)) (by show some (Value.int .i64 x.cap)=_;rw[hxc]))<|wE rfl (run_call en56 rfl rfl) (new_abs hk1 hk hc _) ?_
 rintro e w ⟨bp,L0,rfl,hP0,hq⟩
 refine⟨_,rfl,?_⟩
 replace hs:=Step.append_comm (L1:=L0) (L2:=[_]) (Step.call0 hs hq)
 refine wm<|wx rfl rfl<|wx rfl rfl<|wA<|wA<|wZ<|sr<|wm<|wF 0 u28 rfl ty3 rfl<|wl ty3 rfl (hs.c0 (v:=.int .i64 (c:Nat)) (by show some (Value.int .i64 x.cap)=_;rw[hxc]))<|wE rfl (run_call en58 rfl rfl) (rnew_abs hk1 hk hc _) ?_
 rintro e w ⟨br,R0,rfl,hR0,hq⟩
 refine⟨_,rfl,?_⟩
 replace hs:=Step.q5 (Step.call0 hs hq)
 refine wm<|wx rfl rfl<|wx rfl rfl<|wA<|wA<|wZ<|cq<|sr<|wm<|wm<|nF<|wm<|wy<|wm ?_
 refine wy<|wV (run_ptrNil u39 rfl rfl)<|wy<|wm<|wy<|wV (run_ptrNil u40 rfl rfl)<|wy<|wV (run_neqB u4 rfl rfl)<|pF<|wZ<|CW.cond rfl (fun h=>?_) (fun h=>?_)
 ·cases h
 refine ck<|cq<|sr<|wm<|wV (run_ptrNil u39 rfl rfl)<|wZ<|CW.cond rfl (fun h2=>?_) (fun h2=>?_)
 ·cases h2
 refine ck<|sr<|wm<|wm<|wV (run_build rfl ((bld_w8 _ _ _)))<|WL.box (cs:=w8C bp br (.slice none 0 0)) rfl rfl rfl hs (fun b53 w hs=>?_)
 refine wA<|wZ ?_
 have hXm:(b3,blk 28 x.cells)∈[(b3,blk 28 x.cells)]:=mem_singleton.2 rfl
 have hMI:MI b53 bp br k [(b3,blk 28 x.cells)] w0 0 0 w:=⟨newS k c,[],_,[],L0,R0,[],⟨hP0,hR0,newS_ok hk1 hk hc,Small.new k c,OwnSl.nil _ _,(fun d hd=>by cases hd),by
  have h:=hs.swap.perm (L':=[(b3,blk 28 x.cells)]++((b53,blk 42 (w8C bp br (.slice none 0 0)))::([]++(L0++(R0++[]))))) (by
   have e:[(b3,blk 28 x.cells)]++((b53,blk 42 (w8C bp br (.slice none 0 0)))::([]++(L0++(R0++[]))))=(b3,blk 28 x.cells)::(b53,blk 42 (w8C bp br (.slice none 0 0)))::(L0++R0):=by simp
   rw[e]
   exact(perm_append_comm.cons _).cons _)
  exact h⟩,newS_few,rfl,Nat.le_refl _⟩
 clear hs
 refine CW.seqM (fun f w=>MI b53 bp br k [(b3,blk 28 x.cells)] w0 40000000 200 w∧Holds f [(0,.int .i64 (k:Nat)),(3,pt b3),(6,pt bp),(8,pt br),(10,pt b53)]) ?_ ?_
 ·refine sr<|wA<|wZ<|cB<|CW.loop (fun z f w'=>∃i,i≤200∧i≤x.T.length∧z=200 - i∧MI b53 bp br k [(b3,blk 28 x.cells)] w0 (i*200000) i w'∧Holds f [(0,.int .i64 (k:Nat)),(3,pt b3),(6,pt bp),(8,pt br),(10,pt b53),(11,.int .i64 (i:Nat))]) (m:=200) ?_ ?_
  ·exact⟨0,by omega,Nat.zero_le _,rfl,hMI,rfl,rfl,rfl,rfl,rfl,rfl,trivial⟩
  clear hMI
  rintro z f w ⟨i,hi2,hiT,rfl,hMI,hf⟩
  have ob:=hf.chain
  obtain⟨g,rfl⟩:=ob
  by_cases hlt:i<x.T.length
  ·by_cases h200:i<200
   ·have ob:∃t,x.T[i]?=some t:=⟨_,getElem?_eq_getElem hlt⟩
    obtain⟨t,ht⟩:=ob
    have ob:=hx.T t (mem_of_getElem? ht)
    obtain⟨hIt,hIr,hIp⟩:=ob
    have ob:=sl_at1 (c:=fun t:Value×List It=>t.1) hsT ht
    obtain⟨tb,to,tc,hte,htc⟩:=ob
    cases hte
    have hXc:=fun{w:World} h=>xcell (x:=x) (w:=w) (b3:=b3) h hT1
    refine cq<|sr<|wm<|wF 1 u28 rfl ty22 rfl<|wl ty22 rfl (hXc (hMI.get hXm))<|wL u22 rfl<|lT<|wm<|wy<|wm<|wy<|lT<|pT<|wZ ?_
    refine CW.cond rfl (fun h=>?_) (fun h=>?_)
    ·refine ck<|cq<|cB<|sr<|wm<|wF 1 u28 rfl ty22 rfl<|wl ty22 rfl (hXc (hMI.get hXm))<|wm<|wI u22 ty65 rfl rfl<|wl ty65 rfl (keep1 (S:=[]) htc hMI.base)<|wE rfl (run_call en59 rfl rfl) (build_spec hk1 hk _ (hIt.step0 hMI.base) hIp hIr) ?_
     rintro e w ⟨d,vB,LB,B,D1,er,rfl,hd32,hB,hBo,hBl,hq⟩
     refine⟨_,rfl,?_⟩
     replace hMI:=MI.add hMI hq
     obtain⟨s,roots,vR,LR,L,R,D,hM,few,hsk,hrl⟩:=hMI
     have hs:=hM.hs
     have hdl:(u8s d).length=32:=by rw[u8s,length_map,hd32]
     refine wm<|wx rfl rfl<|wx rfl rfl<|wx rfl rfl<|WL.alloc ty44 rfl hs (fun b12 w hs=>?_)
     refine WL.storeAll ty44 rfl rfl ((hdl)) ((Cells1.u8s _)) hs (by rfl) (fun w hs=>?_)
     refine wA<|wA<|wZ ?_
     have hM1:MX b53 bp br ((LB++D1)++[(b3,blk 28 x.cells)]) w0 s roots vR LR L R D w:=⟨hM.pr,hM.rr,hM.ok,hM.small,hM.vr,hM.r32,hs.tail⟩
     have ob:=hB.form
     obtain⟨vBa,vBc,rfl⟩:=ob
     by_cases her:er≠0
     ·refine cq<|sr<|wm<|wV (run_bT (run_neq rfl rfl) (by exact her))<|wZ<|CW.cond rfl (fun h=>?_) (fun h=>?_)
      ·refine CW.exit<|cr<|wm<|wP ((i+1:Nat):Int)<|wA<|wZ<|(show _∧_ from⟨rfl,_,?_,i+1,h200,hlt,rfl,⟨s,roots,vR,LR,L,R,D,hM1.drop,few.mono (by omega),hsk,by omega⟩,rfl,rfl,rfl,rfl,rfl,rfl,trivial⟩)
       omega
      ·cases h
     refine cq<|sr<|wm<|wV (run_bF (run_neq rfl rfl) (by exact her))<|wZ<|CW.cond rfl (fun h=>?_) (fun h=>?_)
     ·cases h
     replace hs:=Step.s1 hs
     have hvr:=hM.vr
     have ob:=hvr.form
     obtain⟨ra,rc,rfl⟩:=ob
     refine ck<|cq<|CW.any (A:=fun w=>Step [] [(b12,blk 44 (u8s d))] w0 w) (C:=fun w=>Step [] [(b12,blk 44 (u8s d)),(b53,blk 42 (w8C bp br (.slice ra roots.length rc)))] w0 w) 10 11 mixedP rfl ?_
     replace hs:=hs.drew
     refine aM 0 rfl<|aM 1 rfl<|aN 2 rfl rfl<|aF 3 rfl 2 u42 rfl ty35 rfl<|aL 4 rfl ty35 rfl (fun w hs=>hs.c1 rfl)<|aV 5 rfl (fun w hs=>run_loadN ty44 rfl hdl hs.a0)<|AL.one 6 (by kernel_rfl) rfl (by exact Step.dropR (L1:=[(b12,_)]) hs) (by exact Step.dropR (L1:=[_,_]) hs) ?_
     refine WL.buildSlice (cs:=u8s d) u35 ty44 rfl (by decide) rfl (filled1 hdl rfl) rfl hs (fun b84 w hs=>?_)
     have hsl84:Sl w 32 (.slice (some ⟨b84,0,none⟩) 1 1) 1 (u8s d):=.own1 hs (by rw[hdl])
     replace hs:=Step.in3 hs
     refine wZ<|⟨rfl,?_⟩
     refine AL.one 7 (by kernel_rfl) rfl (by exact Step.dropR (L1:=[(b12,_)]) (hs.dropL (L1:=LR)).tail) (by exact Step.dropR (L1:=[_,_]) (hs.dropL (L1:=LR)).tail) ?_
     refine WL.append u35 u35 ty44 rfl (by decide) rfl rfl (hvr) (hs) (hsl84) (Cells1.u8s _) (by omega) rfl (fun v85 Lv85 w hv85 hs=>?_)
     replace hs:=Step.out3 hs
     refine wZ<|⟨rfl,?_⟩
     refine AL.valA 8 rfl (by kernel_rfl) rfl (fun w hs=>run_nilCheck rfl) ?_
     refine aF 9 rfl 2 u42 rfl ty35 rfl<|AL.one 10 (by kernel_rfl) rfl (by exact Step.dropR (L1:=[(b12,_)]) hs) (by exact Step.dropR (L1:=[_,_]) hs) ?_
     refine ws1 ty35 rfl rfl (hv85.one) (hs.swap) (fun w hs=>?_)
     refine wZ<|⟨rfl,?_⟩
     refine AL.relax (by kernel_rfl) ?_
     refine AL.end (by kernel_rfl) (by exact Step.dropR (L1:=[(b12,_)]) hs.tail) (trivial) ?_
     replace hs:Step [] ((b12,blk 44 (u8s d))::(b53,blk 42 (w8C bp br v85))::(Lv85++(((LB++D1)++[(b3,blk 28 x.cells)])++(L++(R++D))))) w0 w:=hs.swap
     have hM3:MX b53 bp br ((LB++D1)++[(b3,blk 28 x.cells)]) w0 s (roots++[d]) v85 Lv85 L R D w:=⟨hM.pr,hM.rr,hM.ok,hM.small,by rw[length_append,digsL_snoc];exact hv85,fun e he=>(mem_append.1 he).elim (hM.r32 e) fun he=>by obtain rfl:=mem_singleton.1 he;exact hd32,Step.s2 hs⟩
     have hMI:MI b53 bp br k ((LB++D1)++[(b3,blk 28 x.cells)]) w0 (i*200000+0) (i+1) w:=⟨s,_,_,_,L,R,D,hM3,few.mono (by omega),hsk,by rw[length_append,length_singleton];omega⟩
     clear hs
     refine sr<|wA<|wZ<|cB<|CW.loop (fun z f w'=>∃q,q≤B.length∧z=B.length - q∧MI b53 bp br k ((LB++D1)++[(b3,blk 28 x.cells)]) w0 (i*200000+q) (i+1) w'∧Holds f [(0,.int .i64 (k:Nat)),(3,pt b3),(6,pt bp),(8,pt br),(10,pt b53),(11,.int .i64 (i:Nat)),(13,.slice vBa B.length vBc),(15,.int .i64 (q:Nat))]) (m:=B.length) ?_ ?_
     ·exact⟨0,Nat.zero_le _,rfl,hMI,rfl,rfl,rfl,rfl,rfl,rfl,rfl,rfl,trivial⟩
     clear hMI
     rintro z f w ⟨q,hq,rfl,hMI,hf⟩
     have ob:=hf.chain
     obtain⟨g,rfl⟩:=ob
     by_cases hql:q<B.length
     ·have ob:∃u,B[q]?=some u:=⟨_,getElem?_eq_getElem hql⟩
      obtain⟨u,hu⟩:=ob
      have huo:=hBo u (mem_of_getElem? hu)
      have ob:=At.ownSl hB (w:=w) (fun p hp=>hMI.get (by simp[hp])) (by omega)
      obtain⟨ub,uc,hue,hua⟩:=ob
      cases hue
      refine cq<|sr<|wm<|wm<|wL u24 rfl<|lT<|wZ<|CW.cond rfl (fun h=>?_) (fun h=>?_)
      ·refine ck<|cq<|cB<|sr<|wm<|wm<|wm<|wI u24 ty76 rfl rfl<|wl ty76 rfl (cellsB_at hua hu)<|wE rfl (run_call en60 rfl rfl) (MI.put hMI (by omega) (.inr (huo.1.mono fun p hp=>by simp[hp])) huo.1.room (by omega)) ?_
       rintro e w ⟨rfl,hMI2⟩
       refine⟨_,rfl,?_⟩
       refine wN rfl<|wZ<|CW.cond rfl (fun h=>?_) (fun h=>?_)
       ·cases h
       refine ck<|cr<|wm<|wP ((q+1:Nat):Int)<|wA<|wZ<|(show _∧_ from⟨rfl,_,?_,q+1,hql,rfl,hMI2.mono (by omega) (Nat.le_refl _),rfl,rfl,rfl,rfl,rfl,rfl,rfl,rfl,trivial⟩)
       omega
      ·cases h
     ·refine cq<|sr<|wm<|wm<|wL u24 rfl<|lF<|wZ<|CW.cond rfl (fun h=>?_) (fun h=>?_)
      ·cases h
      refine CW.exit<|cr<|wm<|wP ((i+1:Nat):Int)<|wA<|wZ<|(show _∧_ from⟨rfl,_,?_,i+1,h200,hlt,rfl,(MI.drop hMI).mono (by omega) (Nat.le_refl _),rfl,rfl,rfl,rfl,rfl,rfl,trivial⟩)
      omega
    ·cases h
   ·have hXc:=fun{w:World} h=>xcell (x:=x) (w:=w) (b3:=b3) h hT1
    refine cq<|sr<|wm<|wF 1 u28 rfl ty22 rfl<|wl ty22 rfl (hXc (hMI.get hXm))<|wL u22 rfl<|lT<|wm<|wy<|wm<|wy<|lF<|pT<|wZ ?_
    refine CW.cond rfl (fun h=>?_) (fun h=>?_)
    ·cases h
    refine CW.exit ?_
    exact⟨rfl,hMI.mono (by omega) hi2,rfl,rfl,rfl,rfl,rfl,trivial⟩
  ·have hXc:=fun{w:World} h=>xcell (x:=x) (w:=w) (b3:=b3) h hT1
   refine cq<|sr<|wm<|wF 1 u28 rfl ty22 rfl<|wl ty22 rfl (hXc (hMI.get hXm))<|wL u22 rfl<|lF<|wm<|wz<|wz<|pF<|wZ<|CW.cond rfl (fun h=>?_) (fun h=>?_)
   ·cases h
   refine CW.exit ?_
   exact⟨rfl,hMI.mono (by omega) hi2,rfl,rfl,rfl,rfl,rfl,trivial⟩
 clear hMI
 rintro f w ⟨hMI,hf⟩
 replace hMI:MI b53 bp br k [(b3,blk 28 x.cells)] w0 (40000000+0) (200+0) w:=hMI.mono (by omega) (by omega)
 have ob:=hf.chain
 obtain⟨g,rfl⟩:=ob
 refine CW.seqM (fun f w=>MI b53 bp br k [(b3,blk 28 x.cells)] w0 40000200 400 w∧Holds f [(0,.int .i64 (k:Nat)),(3,pt b3),(6,pt bp),(8,pt br),(10,pt b53)]) ?_ ?_
 ·refine sr<|wA<|wZ<|cB<|CW.loop (fun z f w'=>∃i,i≤200∧i≤x.N.length∧z=200 - i∧MI b53 bp br k [(b3,blk 28 x.cells)] w0 (40000000+i) (200+i) w'∧Holds f [(0,.int .i64 (k:Nat)),(3,pt b3),(6,pt bp),(8,pt br),(10,pt b53),(16,.int .i64 (i:Nat))]) (m:=200) ?_ ?_
  ·exact⟨0,by omega,Nat.zero_le _,rfl,hMI,rfl,rfl,rfl,rfl,rfl,rfl,trivial⟩
  clear hMI
  rintro z f w ⟨i,hi2,hiT,rfl,hMI,hf⟩
  have ob:=hf.chain
  obtain⟨g,rfl⟩:=ob
  have hXc:=fun{w:World} h=>xcell (x:=x) (w:=w) (b3:=b3) h hN2
  by_cases hlt:i<x.N.length
  ·by_cases h200:i<200
   ·have ob:∃t,x.N[i]?=some t:=⟨_,getElem?_eq_getElem hlt⟩
    obtain⟨t,ht⟩:=ob
    have ob:=hx.N t (mem_of_getElem? ht)
    obtain⟨hEs,hEr⟩:=ob
    have ob:=sl_at1 (c:=fun t:Value×List Ent=>t.1) hsN ht
    obtain⟨tb,to,tc,hte,htc⟩:=ob
    cases hte
    refine cq<|sr<|wm<|wF 2 u28 rfl ty23 rfl<|wl ty23 rfl (hXc (hMI.get hXm))<|wL u23 rfl<|lT<|wm<|wy<|wm<|wy<|lT<|pT<|wZ ?_
    refine CW.cond rfl (fun h=>?_) (fun h=>?_)
    ·refine ck<|cq<|cB<|sr<|wF 2 u28 rfl ty23 rfl<|wl ty23 rfl (hXc (hMI.get hXm))<|wm<|wI u23 ty116 rfl rfl<|wl ty116 rfl (keep1 (S:=[]) htc hMI.base)<|wE rfl (run_call en57 rfl rfl) (encS_spec _ (hEs.step0 hMI.base) hEr) ?_
     rintro e w ⟨v17,y,L17,er,rfl,_,_,hv17,hyl,hq⟩
     refine⟨_,rfl,?_⟩
     replace hMI:=MI.add hMI hq
     refine wm<|wx rfl rfl<|wx rfl rfl<|wA<|wA<|wZ ?_
     have ob:=hv17.form
     obtain⟨ya,yc,rfl⟩:=ob
     by_cases her:er≠0
     ·refine cq<|sr<|wm<|wV (run_bT (run_neq rfl rfl) (by exact her))<|wZ<|CW.cond rfl (fun h=>?_) (fun h=>?_)
      ·refine CW.exit<|cr<|wm<|wP ((i+1:Nat):Int)<|wA<|wZ<|(show _∧_ from⟨rfl,_,?_,i+1,h200,hlt,rfl,(MI.drop hMI).mono (by omega) (by omega),rfl,rfl,rfl,rfl,rfl,rfl,trivial⟩)
       omega
      ·cases h
     refine cq<|sr<|wm<|wV (run_bF (run_neq rfl rfl) (by exact her))<|wZ<|CW.cond rfl (fun h=>?_) (fun h=>?_)
     ·cases h
     obtain⟨s,roots,vR,LR,L,R,D,hM,few,hsk,hrl⟩:=hMI
     have hHy:Held (L17++[(b3,blk 28 x.cells)]) (.slice ya y.length yc) y:=⟨L17,hv17,fun p hp=>mem_append_left _ hp⟩
     have hs:=hM.hs
     have hvr:=hM.vr
     have ob:=hvr.form
     obtain⟨ra,rc,rfl⟩:=ob
     have hfr:=frontL_len (x:=y) hk
     have hof:=fun{w:World}{X:OL} (h:Step [] X w0 w) (hX:∀p∈L17++[(b3,blk 28 x.cells)],p∈X)=>ofR_spec (y:=y) (v:=.slice ya y.length yc) w (hHy.sl fun p hp=>h.has p (hX p hp)) (by omega) hk1 hk
     have ob:∃d,frontL y k=d:=⟨_,rfl⟩
     obtain⟨d,hdg⟩:=ob
     rw[hdg] at hfr
     simp only[hdg] at hof
     have hdl:(u8s d).length=32:=by rw[u8s,length_map,hfr]
     replace hs:Step [] ((b53,blk 42 (w8C bp br (.slice ra roots.length rc)))::(LR++((L17++[(b3,blk 28 x.cells)])++(L++(R++D))))) w0 w:=Step.s4 hs
     refine ck<|cq<|CW.any (A:=fun w=>True) (C:=fun w=>Step [] [(b53,blk 42 (w8C bp br (.slice ra roots.length rc)))] w0 w) 12 13 mixedP rfl ?_
     replace hs:=hs.drew
     refine aM 0 rfl<|aM 1 rfl<|aN 2 rfl rfl<|aF 3 rfl 2 u42 rfl ty35 rfl<|aL 4 rfl ty35 rfl (fun w hs=>hs.c0 rfl)<|aM 5 rfl<|aM 6 rfl<|AL.one 7 (by kernel_rfl) rfl (trivial) (by exact Step.dropR (L1:=[_]) hs) ?_
     refine wE rfl (run_call en61 rfl rfl) (hof hs (fun p hp=>mem_y hp)) ?_
     rintro e w ⟨rfl,hq⟩
     refine⟨_,rfl,?_⟩
     replace hs:=hs.callE hq
     refine wZ<|⟨rfl,?_⟩
     refine AL.one 8 (by kernel_rfl) rfl (trivial) (by exact Step.dropR (L1:=[_]) hs) ?_
     refine WL.buildSlice (cs:=u8s d) u35 ty44 rfl (by decide) rfl (filled1 hdl rfl) rfl hs (fun b131 w hs=>?_)
     have hsl131:Sl w 32 (.slice (some ⟨b131,0,none⟩) 1 1) 1 (u8s d):=.own1 hs (by rw[hdl])
     replace hs:=Step.in2 hs
     refine wZ<|⟨rfl,?_⟩
     refine AL.one 9 (by kernel_rfl) rfl (trivial) (by exact Step.dropR (L1:=[_]) (hs.dropL (L1:=LR)).tail) ?_
     refine WL.append u35 u35 ty44 rfl (by decide) rfl rfl (hvr) (hs) (hsl131) (Cells1.u8s _) (by omega) rfl (fun v132 Lv132 w hv132 hs=>?_)
     replace hs:=Step.out2b hs
     refine wZ<|⟨rfl,?_⟩
     refine AL.valA 10 rfl (by kernel_rfl) rfl (fun w hs=>run_nilCheck rfl) ?_
     refine aF 11 rfl 2 u42 rfl ty35 rfl<|AL.one 12 (by kernel_rfl) rfl (trivial) (by exact Step.dropR (L1:=[_]) hs) ?_
     refine ws1 ty35 rfl rfl (hv132.one) hs (fun w hs=>?_)
     refine wZ<|⟨rfl,?_⟩
     refine AL.relax (by kernel_rfl) ?_
     refine AL.end (by kernel_rfl) (trivial) (trivial) ?_
     replace hs:Step [] ((b53,blk 42 (w8C bp br v132))::(Lv132++((L17++[(b3,blk 28 x.cells)])++(L++(R++D))))) w0 w:=hs
     have hM3:MX b53 bp br (L17++[(b3,blk 28 x.cells)]) w0 s (roots++[d]) v132 Lv132 L R D w:=⟨hM.pr,hM.rr,hM.ok,hM.small,by rw[length_append,digsL_snoc];exact hv132,fun e he=>(mem_append.1 he).elim (hM.r32 e) fun he=>by obtain rfl:=mem_singleton.1 he;exact hfr,Step.s5 hs⟩
     have hMI:MI b53 bp br k (L17++[(b3,blk 28 x.cells)]) w0 (40000000+i) (200+(i+1)) w:=⟨s,_,_,_,L,R,D,hM3,few.mono (by omega),hsk,by rw[length_append,length_singleton];omega⟩
     clear hs
     refine sr<|wm<|wm<|wE rfl (run_call en60 rfl rfl) (MI.put hMI (by omega) (.inr hHy) hHy.room (by omega)) ?_
     rintro e w ⟨rfl,hMI2⟩
     refine⟨_,rfl,?_⟩
     refine wN rfl<|wZ<|CW.cond rfl (fun h=>?_) (fun h=>?_)
     ·cases h
     refine ck<|cr<|wm<|wP ((i+1:Nat):Int)<|wA<|wZ<|(show _∧_ from⟨rfl,_,?_,i+1,h200,hlt,rfl,(MI.drop hMI2).mono (by omega) (by omega),rfl,rfl,rfl,rfl,rfl,rfl,trivial⟩)
     omega
    ·cases h
   ·refine cq<|sr<|wm<|wF 2 u28 rfl ty23 rfl<|wl ty23 rfl (hXc (hMI.get hXm))<|wL u23 rfl<|lT<|wm<|wy<|wm<|wy<|lF<|pT<|wZ ?_
    refine CW.cond rfl (fun h=>?_) (fun h=>?_)
    ·cases h
    refine CW.exit ?_
    exact⟨rfl,hMI.mono (by omega) (by omega),rfl,rfl,rfl,rfl,rfl,trivial⟩
  ·refine cq<|sr<|wm<|wF 2 u28 rfl ty23 rfl<|wl ty23 rfl (hXc (hMI.get hXm))<|wL u23 rfl<|lF<|wm<|wz<|wz<|pF<|wZ<|CW.cond rfl (fun h=>?_) (fun h=>?_)
   ·cases h
   refine CW.exit ?_
   exact⟨rfl,hMI.mono (by omega) (by omega),rfl,rfl,rfl,rfl,rfl,trivial⟩
 clear hMI
 rintro f w ⟨hMI,hf⟩
 replace hMI:MI b53 bp br k [(b3,blk 28 x.cells)] w0 (40000200+0) 400 w:=hMI.mono (by omega) (by omega)
 have ob:=hf.chain
 obtain⟨g,rfl⟩:=ob
 refine CW.seqM (fun f w=>MI b53 bp br k [(b3,blk 28 x.cells)] w0 40000400 400 w∧Holds f [(0,.int .i64 (k:Nat)),(3,pt b3),(6,pt bp),(8,pt br),(10,pt b53)]) ?_ ?_
 ·refine sr<|wA<|wZ<|cB<|CW.loop (fun z f w'=>∃i,i≤200∧i≤x.B.length∧z=200 - i∧MI b53 bp br k [(b3,blk 28 x.cells)] w0 (40000200+i) 400 w'∧Holds f [(0,.int .i64 (k:Nat)),(3,pt b3),(6,pt bp),(8,pt br),(10,pt b53),(19,.int .i64 (i:Nat))]) (m:=200) ?_ ?_
  ·exact⟨0,by omega,Nat.zero_le _,rfl,hMI,rfl,rfl,rfl,rfl,rfl,rfl,trivial⟩
  clear hMI
  rintro z f w ⟨i,hi2,hiT,rfl,hMI,hf⟩
  have ob:=hf.chain
  obtain⟨g,rfl⟩:=ob
  have hXc:=fun{w:World} h=>xcell (x:=x) (w:=w) (b3:=b3) h hB3
  by_cases hlt:i<x.B.length
  ·by_cases h200:i<200
   ·have ob:∃t,x.B[i]?=some t:=⟨_,getElem?_eq_getElem hlt⟩
    obtain⟨t,ht⟩:=ob
    have ob:=hx.B t (mem_of_getElem? ht)
    obtain⟨hys,hyr⟩:=ob
    have ob:=sl_at1 (c:=fun t:Value×List UInt8=>t.1) hsB ht
    obtain⟨tb,to,tc,hte,htc⟩:=ob
    cases hte
    have ob:=sl_form hys
    obtain⟨ya,yc,hyf⟩:=ob
    rw[hyf] at htc hys hyr
    refine cq<|sr<|wm<|wF 3 u28 rfl ty24 rfl<|wl ty24 rfl (hXc (hMI.get hXm))<|wL u24 rfl<|lT<|wm<|wy<|wm<|wy<|lT<|pT<|wZ ?_
    refine CW.cond rfl (fun h=>?_) (fun h=>?_)
    ·by_cases hsm:t.2.length<65536
     ·refine ck<|cq<|cB<|sr<|wF 3 u28 rfl ty24 rfl<|wl ty24 rfl (hXc (hMI.get hXm))<|wm<|wI u24 ty76 rfl rfl<|wl ty76 rfl (keep1 (S:=[]) htc hMI.base)<|wL u76 rfl<|lT<|wm<|wy<|wm ?_
      refine wy<|wF 3 u28 rfl ty24 rfl<|wy<|wl ty24 rfl (hXc (hMI.get hXm))<|wy<|wm ?_
      refine wy ?_;(first | refine WL.val rfl (run_ixSlN u24 ty76 rfl rfl (by omega)) ?_ | refine WL.val rfl (run_ixSl u24 ty76 rfl rfl (by omega)) ?_)
      refine wy<|wl ty76 rfl (keep1 (S:=[]) htc hMI.base)<|wy<|wE rfl (run_call en60 rfl rfl) (MI.put hMI (by omega) (.inl hys) hyr (by omega)) ?_
      rintro e w ⟨rfl,hMI2⟩
      refine⟨_,rfl,?_⟩
      refine wy ?_;(first | refine WL.val rfl (run_notB rfl) ?_ | refine WL.val rfl (run_not rfl) ?_)
      refine pT<|wZ<|CW.cond rfl (fun h=>?_) (fun h=>?_)
      ·cases h
      refine ck<|cr<|wm<|wP ((i+1:Nat):Int)<|wA<|wZ<|(show _∧_ from⟨rfl,_,?_,i+1,h200,hlt,rfl,hMI2.mono (by omega) (Nat.le_refl _),rfl,rfl,rfl,rfl,rfl,rfl,trivial⟩)
      omega
     ·refine ck<|cq<|cB<|sr<|wF 3 u28 rfl ty24 rfl<|wl ty24 rfl (hXc (hMI.get hXm))<|wm<|wI u24 ty76 rfl rfl<|wl ty76 rfl (keep1 (S:=[]) htc hMI.base)<|wL u76 rfl<|lF<|wm<|wz<|wz<|wz<|wz<|wz<|wz<|wz<|wz<|pF<|wZ ?_
      refine CW.cond rfl (fun h=>?_) (fun h=>?_)
      ·cases h
      refine ck<|cr<|wm<|wP ((i+1:Nat):Int)<|wA<|wZ<|(show _∧_ from⟨rfl,_,?_,i+1,h200,hlt,rfl,hMI.mono (by omega) (by omega),rfl,rfl,rfl,rfl,rfl,rfl,trivial⟩)
      omega
    ·cases h
   ·refine cq<|sr<|wm<|wF 3 u28 rfl ty24 rfl<|wl ty24 rfl (hXc (hMI.get hXm))<|wL u24 rfl<|lT<|wm<|wy<|wm<|wy<|lF<|pT<|wZ ?_
    refine CW.cond rfl (fun h=>?_) (fun h=>?_)
    ·cases h
    refine CW.exit ?_
    exact⟨rfl,hMI.mono (by omega) (by omega),rfl,rfl,rfl,rfl,rfl,trivial⟩
  ·refine cq<|sr<|wm<|wF 3 u28 rfl ty24 rfl<|wl ty24 rfl (hXc (hMI.get hXm))<|wL u24 rfl<|lF<|wm<|wz<|wz<|pF<|wZ<|CW.cond rfl (fun h=>?_) (fun h=>?_)
   ·cases h
   refine CW.exit ?_
   exact⟨rfl,hMI.mono (by omega) (by omega),rfl,rfl,rfl,rfl,rfl,trivial⟩
 clear hMI
 rintro f w ⟨hMI,hf⟩
 have ob:=hf.chain
 obtain⟨g,rfl⟩:=ob
 replace hMI:MI b53 bp br k [(b3,blk 28 x.cells)] w0 (40000400+0) 400 w:=hMI.mono (by omega) (by omega)
 refine CW.seqM (fun f w=>MI b53 bp br k [(b3,blk 28 x.cells)] w0 40000600 400 w∧Holds f [(0,.int .i64 (k:Nat)),(3,pt b3),(6,pt bp),(8,pt br),(10,pt b53)]) ?_ ?_
 ·refine sr<|wA<|wZ<|cB<|CW.loop (fun z f w'=>∃i,i≤200∧i≤x.P.length∧z=200 - i∧MI b53 bp br k [(b3,blk 28 x.cells)] w0 (40000400+i) 400 w'∧Holds f [(0,.int .i64 (k:Nat)),(3,pt b3),(6,pt bp),(8,pt br),(10,pt b53),(20,.int .i64 (i:Nat))]) (m:=200) ?_ ?_
  ·exact⟨0,by omega,Nat.zero_le _,rfl,hMI,rfl,rfl,rfl,rfl,rfl,rfl,trivial⟩
  clear hMI
  rintro z f w ⟨i,hi2,hiT,rfl,hMI,hf⟩
  have ob:=hf.chain
  obtain⟨g,rfl⟩:=ob
  have hXc:=fun{w:World} h=>xcell (x:=x) (w:=w) (b3:=b3) h hP5
  have hMI0:=hMI
  obtain⟨s,roots,vR,LR,L,R,D,hM,few,hsk,hrl⟩:=hMI0
  have ob:=hM.rr.look hM.ok.len
  obtain⟨xa,xc,hxc,hlook⟩:=ob
  have hxl:=used_len s.X
  have hxu:=hM.ok.used
  have hlk:∀{w:World},Step [] ([(b3,blk 28 x.cells)]++((b53,blk 42 (w8C bp br vR))::(LR++(L++(R++D))))) w0 w→_:=fun {w} h=>hlook (w:=w) (fun p hp=>h.has p (perm_rm hp))
  by_cases hlt:i<x.P.length
  ·by_cases h200:i<200
   ·by_cases hX0:0<s.X.length
    ·have ob:∃t,x.P[i]?=some t:=⟨_,getElem?_eq_getElem hlt⟩
     obtain⟨t,ht⟩:=ob
     have ob:=hx.P t (mem_of_getElem? ht)
     obtain⟨hz,hys,hyr⟩:=ob
     have ob:=sl_atP hsP ht
     obtain⟨tb,to,tc,hte,htc⟩:=ob
     cases hte
     have ob:=sl_form hys
     obtain⟨ya,yc,hyf⟩:=ob
     have htp:∀{X:OL}{w:World},Step [] X w0 w→At w tb (to+i*2) [.int .i64 t.1,.slice ya t.2.2.length yc]:=fun h=>by
      have h2:=htc.step h.clear (by simp)
      unfold plC at h2
      rw[hyf] at h2;exact h2
     rw[hyf] at hys hyr
     have ob:∃r,roundZ t.1 s.X.length=r:=⟨_,rfl⟩
     obtain⟨r,hre⟩:=ob
     have hrlt:=roundZ_lt (a:=t.1) hX0
     rw[hre] at hrlt
     have hrnd:=fun w=>roundL_spec (a:=t.1) (n:=s.X.length) hX0 (by omega) hz w
     simp only[hre] at hrnd
     have ob:∃b,s.X[r]?=some b:=⟨_,getElem?_eq_getElem hrlt⟩
     obtain⟨b,hb⟩:=ob
     have hbl:=hM.ok.len b (mem_of_getElem? hb)
     have hdl:(u8s b.d).length=32:=by rw[u8s,length_map,hbl]
     have ob:=(hlk hM.hs).2 r b hb
     obtain⟨bx,hbe,_⟩:=ob
     subst hbe
     have hrw:∀{w:World},Step [] ([(b3,blk 28 x.cells)]++((b53,blk 42 (w8C bp br vR))::(LR++(L++(R++D))))) w0 w→At w bx (0+r*34) (u8s b.d):=fun h=>by
      have ob:=(hlk h).2 r b hb
      obtain⟨bx',h1,h2⟩:=ob
      cases h1
      exact h2
     refine cq<|sr<|wm<|wF 5 u28 rfl ty26 rfl<|wl ty26 rfl (hXc (hMI.get hXm))<|wL u26 rfl<|lT<|wm<|wy<|wm<|wy<|lT<|pT<|wm ?_
     refine wy<|wm<|wy<|wn rfl<|wy<|wF 3 u54 rfl ty52 rfl<|wy<|wl ty52 rfl ((hlk hM.hs).1.cell (j:=3) rfl)<|wy<|wL u52 rfl<|wy<|xT<|pT<|wZ ?_
     refine CW.cond rfl (fun h=>?_) (fun h=>?_)
     ·have hs:=hM.hs
      have ok:=hM.ok
      refine ck<|cq<|cB<|cq<|CW.any (A:=fun w=>Step [] ([(b3,blk 28 x.cells)]++((b53,blk 42 (w8C bp br vR))::(LR++(L++(R++D))))) w0 w) (C:=fun w=>Step [] ([(b3,blk 28 x.cells)]++((b53,blk 42 (w8C bp br vR))::(LR++(L++(R++D))))) w0 w) 1000000 21 mixedP rfl ?_
      replace hs:=hs.drew
      refine aM 0 rfl<|aN 1 rfl rfl<|aF 2 rfl 3 u54 rfl ty52 rfl<|aL 3 rfl ty52 rfl (fun w hs=>(hlk hs).1.cell (j:=3) rfl)<|aF 4 rfl 5 u28 rfl ty26 rfl<|aL 5 rfl ty26 rfl (fun w hs=>hXc (hs.has (b3,blk 28 x.cells) (by simp)))<|aM 6 rfl<|aV 7 rfl (fun w hs=>run_ixSlN u26 ty124 rfl rfl (by omega))<|aF 8 rfl 0 u124 rfl ty3 rfl<|aL 9 rfl ty3 rfl (fun w hs=>(htp hs).cell (j:=0) rfl)<|aM 10 rfl<|aN 11 rfl rfl<|aF 12 rfl 3 u54 rfl ty52 rfl<|aL 13 rfl ty52 rfl (fun w hs=>(hlk hs).1.cell (j:=3) rfl) ?_
      refine aV 14 rfl (fun w hs=>run_lenSl u52 rfl)<|AL.two 15 19 (by kernel_rfl) rfl rfl (by exact hs) (by exact hs) ?_ ?_
      ·refine wE rfl (run_call en46 rfl rfl) (hrnd _) ?_
       rintro e w ⟨rfl,hq⟩
       refine⟨_,rfl,?_⟩
       replace hs:=hs.callE hq
       refine wZ<|⟨rfl,?_⟩
       refine aV 16 rfl (fun w hs=>run_ixSlN u52 ty80 rfl rfl (by omega))<|aF 17 rfl 0 u80 rfl ty44 rfl<|aV 18 rfl (fun w hs=>run_loadN ty44 rfl hdl (hrw hs))<|AL.one 19 (by kernel_rfl) rfl (by exact hs) (by exact hs) ?_
       refine WL.alloc ty44 rfl hs (fun b21 w hs=>?_)
       refine wZ<|⟨rfl,?_⟩
       refine AL.one 20 (by kernel_rfl) rfl (by exact hs.tail) (by exact hs.tail) ?_
       refine WL.storeAll ty44 rfl rfl (hdl) (Cells1.u8s _) hs (by rfl) (fun w hs=>?_)
       refine wZ<|⟨rfl,?_⟩
       refine AL.end (by kernel_rfl) (by exact hs.tail) (by exact hs.tail) ?_
       by_cases hsm:t.2.2.length<65536
       ·replace hs:Step [] (((b21,blk 44 (u8s b.d))::(b3,blk 28 x.cells)::(b53,blk 42 (w8C bp br vR))::LR)++(L++(R++D))) w0 w:=hs
        have hpl:=fun{w1:World} (hs:Step [] (((b21,blk 44 (u8s b.d))::(b3,blk 28 x.cells)::(b53,blk 42 (w8C bp br vR))::LR)++(L++(R++D))) w0 w1)=>plant_abs (w0:=w1) hM.pr ok few (by omega) (Two.live hs) hbl (hys.step0 hs) (OutE.new hs hys (.inr (outside_nil _)) fun p hp=>by simp[hp]) (by omega)
        have hrpl:=fun{w1:World}{D1:OL} h1 h2 h3=>rplant_abs (w0:=w1) (hM.rr.mono (D':=D1++D) mem_right) ok few (by omega) h1 hbl (y:=t.2.2) (v:=.slice ya t.2.2.length yc) h2 h3 (by omega)
        refine cq<|CW.any (A:=fun w=>Step [] [(b21,blk 44 (u8s b.d)),(b3,blk 28 x.cells)] w0 w) (C:=fun w=>Step [] [(b21,blk 44 (u8s b.d)),(b3,blk 28 x.cells)] w0 w) 1000000 29 mixedP rfl ?_
        replace hs:=hs.drew
        refine aF 0 rfl 5 u28 rfl ty26 rfl<|aL 1 rfl ty26 rfl (fun w hs=>hXc hs.tail.hd)<|aM 2 rfl<|aV 3 rfl (fun w hs=>run_ixSlN u26 ty124 rfl rfl (by omega))<|aF 4 rfl 1 u124 rfl ty76 rfl<|aL 5 rfl ty76 rfl (fun w hs=>(htp hs).cell (j:=1) rfl)<|aV 6 rfl (fun w hs=>run_lenSl u76 rfl)<|aV 7 rfl (fun w hs=>run_bT (run_lss rfl rfl) (by omega))<|aM 8 rfl<|AL.valY 9 rfl (by kernel_rfl) rfl rfl rfl rfl (fun w hs=>run_move) ?_
        refine AL.valY 10 rfl (by kernel_rfl) rfl rfl rfl rfl (fun w hs=>run_loadN ty44 rfl hdl hs.a0) ?_
        refine AL.valY 11 rfl (by kernel_rfl) rfl rfl rfl rfl (fun w hs=>run_field (o':=5) u28 rfl ty26 rfl rfl rfl) ?_
        refine AL.valY 12 rfl (by kernel_rfl) rfl rfl rfl rfl (fun w hs=>run_load1 ty26 rfl ((hXc hs.tail.hd))) ?_
        refine AL.valY 13 rfl (by kernel_rfl) rfl rfl rfl rfl (fun w hs=>run_move) ?_
        refine AL.valY 14 rfl (by kernel_rfl) rfl rfl rfl rfl (fun w hs=>run_ixSlN u26 ty124 rfl rfl (by omega)) ?_
        refine AL.valY 15 rfl (by kernel_rfl) rfl rfl rfl rfl (fun w hs=>run_field (o':=1) u124 rfl ty76 rfl rfl rfl) ?_
        refine AL.valY 16 rfl (by kernel_rfl) rfl rfl rfl rfl (fun w hs=>run_load1 ty76 rfl ((htp hs).cell (j:=1) rfl)) ?_
        refine AL.valY 18 rfl (by kernel_rfl) rfl rfl rfl rfl (fun w hs=>run_move) ?_
        refine AL.valY 19 rfl (by kernel_rfl) rfl rfl rfl rfl (fun w hs=>run_loadN ty44 rfl hdl hs.a0) ?_
        refine AL.valY 20 rfl (by kernel_rfl) rfl rfl rfl rfl (fun w hs=>run_field (o':=5) u28 rfl ty26 rfl rfl rfl) ?_
        refine AL.valY 21 rfl (by kernel_rfl) rfl rfl rfl rfl (fun w hs=>run_load1 ty26 rfl ((hXc hs.tail.hd))) ?_
        refine AL.valY 22 rfl (by kernel_rfl) rfl rfl rfl rfl (fun w hs=>run_move) ?_
        refine AL.valY 23 rfl (by kernel_rfl) rfl rfl rfl rfl (fun w hs=>run_ixSlN u26 ty124 rfl rfl (by omega)) ?_
        refine AL.valY 24 rfl (by kernel_rfl) rfl rfl rfl rfl (fun w hs=>run_field (o':=1) u124 rfl ty76 rfl rfl rfl) ?_
        refine AL.valY 25 rfl (by kernel_rfl) rfl rfl rfl rfl (fun w hs=>run_load1 ty76 rfl ((htp hs).cell (j:=1) rfl)) ?_
        refine AL.one 17 (by kernel_rfl) rfl (Step.dropR (L1:=[_,_]) hs) (Step.dropR (L1:=[_,_]) hs) ?_
        refine wy<|wE rfl (run_call en35 rfl rfl) (hpl hs) ?_
        rintro e w ⟨L1,D1,rfl,hP1,hq⟩
        refine⟨_,rfl,?_⟩
        replace hs:=Two.put (A:=_::_::_::LR) hs hq
        refine wZ<|⟨rfl,?_⟩
        refine AL.one 26 (by kernel_rfl) rfl (Step.dropR (L1:=[_,_]) hs) (Step.dropR (L1:=[_,_]) hs) ?_
        refine wy<|wE rfl (run_call en62 rfl rfl) (hrpl (Two.rlive (A:=_::_::_::LR) hs) (hys.step0 hs) (OutE.new hs hys (.inr (outside_nil _)) fun p hp=>by simp[hp])) ?_
        rintro e w ⟨R1,D2,rfl,hR1,hq2⟩
        refine⟨_,rfl,?_⟩
        replace hs:=Two.rput (A:=_::_::_::LR) hs hq2
        refine wZ<|⟨rfl,?_⟩
        refine AL.valY 27 rfl (by kernel_rfl) rfl rfl rfl rfl (fun w hs=>run_bF (run_neq rfl rfl) (by exact fun h=>h rfl)) ?_
        refine aV 28 rfl (fun w hs=>run_pickT rfl)<|AL.end (by kernel_rfl) (Step.dropR (L1:=[_,_]) hs) (Step.dropR (L1:=[_,_]) hs) ?_
        have hs2:=(Step.perm hs (List.Perm.refl _)).tail
        have hMI2:MI b53 bp br k [(b3,blk 28 x.cells)] w0 (40000400+(i+1)) 400 w:=⟨(s.plant b.d t.2.2).2,roots,vR,LR,L1,R1,D2++(D1++D),⟨hP1.mono mem_right,hR1,ok.plant hbl t.2.2,hM.small.plant _ _,hM.vr,hM.r32,hs2.perm (by simp[append_assoc])⟩,(few.plant b.d t.2.2).mono (by omega),by rw[plant_k'];exact hsk,hrl⟩
        refine CW.cond rfl (fun h=>?_) (fun h=>?_)
        ·cases h
        refine ck<|cr<|wm<|wP ((i+1:Nat):Int)<|wA<|wZ<|(show _∧_ from⟨rfl,_,?_,i+1,h200,hlt,rfl,hMI2,rfl,rfl,rfl,rfl,rfl,rfl,trivial⟩)
        omega
       ·have hsm2:=hsm
        refine cq<|CW.any (A:=fun w=>Step [] [(b21,blk 44 (u8s b.d)),(b3,blk 28 x.cells)] w0 w) (C:=fun w=>Step [] [(b21,blk 44 (u8s b.d)),(b3,blk 28 x.cells)] w0 w) 1000000 29 mixedP rfl ?_
        replace hs:=hs.drew
        refine aF 0 rfl 5 u28 rfl ty26 rfl<|aL 1 rfl ty26 rfl (fun w hs=>hXc hs.tail.hd)<|aM 2 rfl<|aV 3 rfl (fun w hs=>run_ixSlN u26 ty124 rfl rfl (by omega))<|aF 4 rfl 1 u124 rfl ty76 rfl<|aL 5 rfl ty76 rfl (fun w hs=>(htp hs).cell (j:=1) rfl)<|aV 6 rfl (fun w hs=>run_lenSl u76 rfl)<|aV 7 rfl (fun w hs=>run_bF (run_lss rfl rfl) (by omega))<|aM 8 rfl<|AL.valN 9 rfl (by kernel_rfl) rfl rfl rfl (.inl rfl) ?_
        refine AL.valN 10 rfl (by kernel_rfl) rfl rfl rfl (.inl rfl) ?_
        refine AL.valN 11 rfl (by kernel_rfl) rfl rfl rfl (.inl rfl) ?_
        refine AL.valN 12 rfl (by kernel_rfl) rfl rfl rfl (.inl rfl) ?_
        refine AL.valN 13 rfl (by kernel_rfl) rfl rfl rfl (.inl rfl) ?_
        refine AL.valN 14 rfl (by kernel_rfl) rfl rfl rfl (.inl rfl) ?_
        refine AL.valN 15 rfl (by kernel_rfl) rfl rfl rfl (.inl rfl) ?_
        refine AL.valN 16 rfl (by kernel_rfl) rfl rfl rfl (.inl rfl) ?_
        refine AL.valN 17 rfl (by kernel_rfl) rfl rfl rfl (.inl rfl) ?_
        refine AL.valN 18 rfl (by kernel_rfl) rfl rfl rfl (.inl rfl) ?_
        refine AL.valN 19 rfl (by kernel_rfl) rfl rfl rfl (.inl rfl) ?_
        refine AL.valN 20 rfl (by kernel_rfl) rfl rfl rfl (.inl rfl) ?_
        refine AL.valN 21 rfl (by kernel_rfl) rfl rfl rfl (.inl rfl) ?_
        refine AL.valN 22 rfl (by kernel_rfl) rfl rfl rfl (.inl rfl) ?_
        refine AL.valN 23 rfl (by kernel_rfl) rfl rfl rfl (.inl rfl) ?_
        refine AL.valN 24 rfl (by kernel_rfl) rfl rfl rfl (.inl rfl) ?_
        refine AL.valN 25 rfl (by kernel_rfl) rfl rfl rfl (.inl rfl) ?_
        refine AL.valN 26 rfl (by kernel_rfl) rfl rfl rfl (.inl rfl) ?_
        refine AL.valN 27 rfl (by kernel_rfl) rfl rfl rfl (.inl rfl) ?_
        refine aV 28 rfl (fun w hs=>run_pickF rfl)<|AL.end (by kernel_rfl) (Step.dropR (L1:=[_,_]) hs) (Step.dropR (L1:=[_,_]) hs) ?_
        have hMI2:MI b53 bp br k [(b3,blk 28 x.cells)] w0 (40000400+(i+1)) 400 _:=⟨s,roots,vR,LR,L,R,D,⟨hM.pr,hM.rr,ok,hM.small,hM.vr,hM.r32,hs.tail⟩,few.mono (by omega),hsk,hrl⟩
        refine CW.cond rfl (fun h=>?_) (fun h=>?_)
        ·cases h
        refine ck<|cr<|wm<|wP ((i+1:Nat):Int)<|wA<|wZ<|(show _∧_ from⟨rfl,_,?_,i+1,h200,hlt,rfl,hMI2,rfl,rfl,rfl,rfl,rfl,rfl,trivial⟩)
        omega
      ·refine WL.alloc ty44 rfl hs (fun b21 w hs=>?_)
       refine wZ<|⟨rfl,?_⟩
       refine AL.one 15 (by kernel_rfl) rfl (by exact hs.tail) (by exact hs.tail) ?_
       refine wE rfl (run_call en46 rfl rfl) (hrnd _) ?_
       rintro e w ⟨rfl,hq⟩
       refine⟨_,rfl,?_⟩
       replace hs:=hs.callE hq
       refine wZ<|⟨rfl,?_⟩
       refine aV 16 rfl (fun w hs=>run_ixSlN u52 ty80 rfl rfl (by omega))<|aF 17 rfl 0 u80 rfl ty44 rfl<|aV 18 rfl (fun w hs=>run_loadN ty44 rfl hdl (hrw hs))<|AL.one 20 (by kernel_rfl) rfl (by exact hs.tail) (by exact hs.tail) ?_
       refine WL.storeAll ty44 rfl rfl (hdl) (Cells1.u8s _) hs (by rfl) (fun w hs=>?_)
       refine wZ<|⟨rfl,?_⟩
       refine AL.end (by kernel_rfl) (by exact hs.tail) (by exact hs.tail) ?_
       by_cases hsm:t.2.2.length<65536
       ·replace hs:Step [] (((b21,blk 44 (u8s b.d))::(b3,blk 28 x.cells)::(b53,blk 42 (w8C bp br vR))::LR)++(L++(R++D))) w0 w:=hs
        have hpl:=fun{w1:World} (hs:Step [] (((b21,blk 44 (u8s b.d))::(b3,blk 28 x.cells)::(b53,blk 42 (w8C bp br vR))::LR)++(L++(R++D))) w0 w1)=>plant_abs (w0:=w1) hM.pr ok few (by omega) (Two.live hs) hbl (hys.step0 hs) (OutE.new hs hys (.inr (outside_nil _)) fun p hp=>by simp[hp]) (by omega)
        have hrpl:=fun{w1:World}{D1:OL} h1 h2 h3=>rplant_abs (w0:=w1) (hM.rr.mono (D':=D1++D) mem_right) ok few (by omega) h1 hbl (y:=t.2.2) (v:=.slice ya t.2.2.length yc) h2 h3 (by omega)
        refine cq<|CW.any (A:=fun w=>Step [] [(b21,blk 44 (u8s b.d)),(b3,blk 28 x.cells)] w0 w) (C:=fun w=>Step [] [(b21,blk 44 (u8s b.d)),(b3,blk 28 x.cells)] w0 w) 1000000 29 mixedP rfl ?_
        replace hs:=hs.drew
        refine aF 0 rfl 5 u28 rfl ty26 rfl<|aL 1 rfl ty26 rfl (fun w hs=>hXc hs.tail.hd)<|aM 2 rfl<|aV 3 rfl (fun w hs=>run_ixSlN u26 ty124 rfl rfl (by omega))<|aF 4 rfl 1 u124 rfl ty76 rfl<|aL 5 rfl ty76 rfl (fun w hs=>(htp hs).cell (j:=1) rfl)<|aV 6 rfl (fun w hs=>run_lenSl u76 rfl)<|aV 7 rfl (fun w hs=>run_bT (run_lss rfl rfl) (by omega))<|aM 8 rfl<|AL.valY 9 rfl (by kernel_rfl) rfl rfl rfl rfl (fun w hs=>run_move) ?_
        refine AL.valY 10 rfl (by kernel_rfl) rfl rfl rfl rfl (fun w hs=>run_loadN ty44 rfl hdl hs.a0) ?_
        refine AL.valY 11 rfl (by kernel_rfl) rfl rfl rfl rfl (fun w hs=>run_field (o':=5) u28 rfl ty26 rfl rfl rfl) ?_
        refine AL.valY 12 rfl (by kernel_rfl) rfl rfl rfl rfl (fun w hs=>run_load1 ty26 rfl ((hXc hs.tail.hd))) ?_
        refine AL.valY 13 rfl (by kernel_rfl) rfl rfl rfl rfl (fun w hs=>run_move) ?_
        refine AL.valY 14 rfl (by kernel_rfl) rfl rfl rfl rfl (fun w hs=>run_ixSlN u26 ty124 rfl rfl (by omega)) ?_
        refine AL.valY 15 rfl (by kernel_rfl) rfl rfl rfl rfl (fun w hs=>run_field (o':=1) u124 rfl ty76 rfl rfl rfl) ?_
        refine AL.valY 16 rfl (by kernel_rfl) rfl rfl rfl rfl (fun w hs=>run_load1 ty76 rfl ((htp hs).cell (j:=1) rfl)) ?_
        refine AL.valY 18 rfl (by kernel_rfl) rfl rfl rfl rfl (fun w hs=>run_move) ?_
        refine AL.valY 19 rfl (by kernel_rfl) rfl rfl rfl rfl (fun w hs=>run_loadN ty44 rfl hdl hs.a0) ?_
        refine AL.valY 20 rfl (by kernel_rfl) rfl rfl rfl rfl (fun w hs=>run_field (o':=5) u28 rfl ty26 rfl rfl rfl) ?_
        refine AL.valY 21 rfl (by kernel_rfl) rfl rfl rfl rfl (fun w hs=>run_load1 ty26 rfl ((hXc hs.tail.hd))) ?_
        refine AL.valY 22 rfl (by kernel_rfl) rfl rfl rfl rfl (fun w hs=>run_move) ?_
        refine AL.valY 23 rfl (by kernel_rfl) rfl rfl rfl rfl (fun w hs=>run_ixSlN u26 ty124 rfl rfl (by omega)) ?_
        refine AL.valY 24 rfl (by kernel_rfl) rfl rfl rfl rfl (fun w hs=>run_field (o':=1) u124 rfl ty76 rfl rfl rfl) ?_
        refine AL.valY 25 rfl (by kernel_rfl) rfl rfl rfl rfl (fun w hs=>run_load1 ty76 rfl ((htp hs).cell (j:=1) rfl)) ?_
        refine AL.one 17 (by kernel_rfl) rfl (Step.dropR (L1:=[_,_]) hs) (Step.dropR (L1:=[_,_]) hs) ?_
        refine wy<|wE rfl (run_call en35 rfl rfl) (hpl hs) ?_
        rintro e w ⟨L1,D1,rfl,hP1,hq⟩
        refine⟨_,rfl,?_⟩
        replace hs:=Two.put (A:=_::_::_::LR) hs hq
        refine wZ<|⟨rfl,?_⟩
        refine AL.one 26 (by kernel_rfl) rfl (Step.dropR (L1:=[_,_]) hs) (Step.dropR (L1:=[_,_]) hs) ?_
        refine wy<|wE rfl (run_call en62 rfl rfl) (hrpl (Two.rlive (A:=_::_::_::LR) hs) (hys.step0 hs) (OutE.new hs hys (.inr (outside_nil _)) fun p hp=>by simp[hp])) ?_
        rintro e w ⟨R1,D2,rfl,hR1,hq2⟩
        refine⟨_,rfl,?_⟩
        replace hs:=Two.rput (A:=_::_::_::LR) hs hq2
        refine wZ<|⟨rfl,?_⟩
        refine AL.valY 27 rfl (by kernel_rfl) rfl rfl rfl rfl (fun w hs=>run_bF (run_neq rfl rfl) (by exact fun h=>h rfl)) ?_
        refine aV 28 rfl (fun w hs=>run_pickT rfl)<|AL.end (by kernel_rfl) (Step.dropR (L1:=[_,_]) hs) (Step.dropR (L1:=[_,_]) hs) ?_
        have hs2:=(Step.perm hs (List.Perm.refl _)).tail
        have hMI2:MI b53 bp br k [(b3,blk 28 x.cells)] w0 (40000400+(i+1)) 400 w:=⟨(s.plant b.d t.2.2).2,roots,vR,LR,L1,R1,D2++(D1++D),⟨hP1.mono mem_right,hR1,ok.plant hbl t.2.2,hM.small.plant _ _,hM.vr,hM.r32,hs2.perm (by simp[append_assoc])⟩,(few.plant b.d t.2.2).mono (by omega),by rw[plant_k'];exact hsk,hrl⟩
        refine CW.cond rfl (fun h=>?_) (fun h=>?_)
        ·cases h
        refine ck<|cr<|wm<|wP ((i+1:Nat):Int)<|wA<|wZ<|(show _∧_ from⟨rfl,_,?_,i+1,h200,hlt,rfl,hMI2,rfl,rfl,rfl,rfl,rfl,rfl,trivial⟩)
        omega
       ·have hsm2:=hsm
        refine cq<|CW.any (A:=fun w=>Step [] [(b21,blk 44 (u8s b.d)),(b3,blk 28 x.cells)] w0 w) (C:=fun w=>Step [] [(b21,blk 44 (u8s b.d)),(b3,blk 28 x.cells)] w0 w) 1000000 29 mixedP rfl ?_
        replace hs:=hs.drew
        refine aF 0 rfl 5 u28 rfl ty26 rfl<|aL 1 rfl ty26 rfl (fun w hs=>hXc hs.tail.hd)<|aM 2 rfl<|aV 3 rfl (fun w hs=>run_ixSlN u26 ty124 rfl rfl (by omega))<|aF 4 rfl 1 u124 rfl ty76 rfl<|aL 5 rfl ty76 rfl (fun w hs=>(htp hs).cell (j:=1) rfl)<|aV 6 rfl (fun w hs=>run_lenSl u76 rfl)<|aV 7 rfl (fun w hs=>run_bF (run_lss rfl rfl) (by omega))<|aM 8 rfl<|AL.valN 9 rfl (by kernel_rfl) rfl rfl rfl (.inl rfl) ?_
        refine AL.valN 10 rfl (by kernel_rfl) rfl rfl rfl (.inl rfl) ?_
        refine AL.valN 11 rfl (by kernel_rfl) rfl rfl rfl (.inl rfl) ?_
        refine AL.valN 12 rfl (by kernel_rfl) rfl rfl rfl (.inl rfl) ?_
        refine AL.valN 13 rfl (by kernel_rfl) rfl rfl rfl (.inl rfl) ?_
        refine AL.valN 14 rfl (by kernel_rfl) rfl rfl rfl (.inl rfl) ?_
        refine AL.valN 15 rfl (by kernel_rfl) rfl rfl rfl (.inl rfl) ?_
        refine AL.valN 16 rfl (by kernel_rfl) rfl rfl rfl (.inl rfl) ?_
        refine AL.valN 17 rfl (by kernel_rfl) rfl rfl rfl (.inl rfl) ?_
        refine AL.valN 18 rfl (by kernel_rfl) rfl rfl rfl (.inl rfl) ?_
        refine AL.valN 19 rfl (by kernel_rfl) rfl rfl rfl (.inl rfl) ?_
        refine AL.valN 20 rfl (by kernel_rfl) rfl rfl rfl (.inl rfl) ?_
        refine AL.valN 21 rfl (by kernel_rfl) rfl rfl rfl (.inl rfl) ?_
        refine AL.valN 22 rfl (by kernel_rfl) rfl rfl rfl (.inl rfl) ?_
        refine AL.valN 23 rfl (by kernel_rfl) rfl rfl rfl (.inl rfl) ?_
        refine AL.valN 24 rfl (by kernel_rfl) rfl rfl rfl (.inl rfl) ?_
        refine AL.valN 25 rfl (by kernel_rfl) rfl rfl rfl (.inl rfl) ?_
        refine AL.valN 26 rfl (by kernel_rfl) rfl rfl rfl (.inl rfl) ?_
        refine AL.valN 27 rfl (by kernel_rfl) rfl rfl rfl (.inl rfl) ?_
        refine aV 28 rfl (fun w hs=>run_pickF rfl)<|AL.end (by kernel_rfl) (Step.dropR (L1:=[_,_]) hs) (Step.dropR (L1:=[_,_]) hs) ?_
        have hMI2:MI b53 bp br k [(b3,blk 28 x.cells)] w0 (40000400+(i+1)) 400 _:=⟨s,roots,vR,LR,L,R,D,⟨hM.pr,hM.rr,ok,hM.small,hM.vr,hM.r32,hs.tail⟩,few.mono (by omega),hsk,hrl⟩
        refine CW.cond rfl (fun h=>?_) (fun h=>?_)
        ·cases h
        refine ck<|cr<|wm<|wP ((i+1:Nat):Int)<|wA<|wZ<|(show _∧_ from⟨rfl,_,?_,i+1,h200,hlt,rfl,hMI2,rfl,rfl,rfl,rfl,rfl,rfl,trivial⟩)
        omega
     ·cases h
    ·refine cq<|sr<|wm<|wF 5 u28 rfl ty26 rfl<|wl ty26 rfl (hXc (hMI.get hXm))<|wL u26 rfl<|lT<|wm<|wy<|wm<|wy<|lT<|pT<|wm ?_
     refine wy<|wm<|wy<|wn rfl<|wy<|wF 3 u54 rfl ty52 rfl<|wy<|wl ty52 rfl ((hlk hM.hs).1.cell (j:=3) rfl)<|wy<|wL u52 rfl<|wy<|xF<|pT<|wZ ?_
     refine CW.cond rfl (fun h=>?_) (fun h=>?_)
     ·cases h
     refine CW.exit ?_
     exact⟨rfl,hMI.mono (by omega) (by omega),rfl,rfl,rfl,rfl,rfl,trivial⟩
   ·refine cq<|sr<|wm<|wF 5 u28 rfl ty26 rfl<|wl ty26 rfl (hXc (hMI.get hXm))<|wL u26 rfl<|lT<|wm<|wy<|wm<|wy<|lF<|pT<|wm<|wz<|wz<|wz<|wz<|wz<|wz<|pF<|wZ ?_
    refine CW.cond rfl (fun h=>?_) (fun h=>?_)
    ·cases h
    refine CW.exit ?_
    exact⟨rfl,hMI.mono (by omega) (by omega),rfl,rfl,rfl,rfl,rfl,trivial⟩
  ·refine cq<|sr<|wm<|wF 5 u28 rfl ty26 rfl<|wl ty26 rfl (hXc (hMI.get hXm))<|wL u26 rfl<|lF<|wm<|wz<|wz<|pF<|wm<|wz<|wz<|wz<|wz<|wz<|wz<|pF<|wZ ?_
   refine CW.cond rfl (fun h=>?_) (fun h=>?_)
   ·cases h
   refine CW.exit ?_
   exact⟨rfl,hMI.mono (by omega) (by omega),rfl,rfl,rfl,rfl,rfl,trivial⟩
 clear hMI
 rintro f w ⟨hMI,hf⟩
 have ob:=hf.chain
 obtain⟨g,rfl⟩:=ob
 refine CW.seqM (fun f w=>MI b53 bp br k [(b3,blk 28 x.cells)] w0 40000600 400 w∧Holds f [(0,.int .i64 (k:Nat)),(3,pt b3),(6,pt bp),(8,pt br),(10,pt b53)]) ?_ ?_
 ·refine sr<|wA<|wZ<|cB<|CW.loop (fun z f w'=>∃i,i≤200∧i≤x.E.length∧z=200 - i∧MI b53 bp br k [(b3,blk 28 x.cells)] w0 40000600 400 w'∧Holds f [(0,.int .i64 (k:Nat)),(3,pt b3),(6,pt bp),(8,pt br),(10,pt b53),(22,.int .i64 (i:Nat))]) (m:=200) ?_ ?_
  ·exact⟨0,by omega,Nat.zero_le _,rfl,hMI,rfl,rfl,rfl,rfl,rfl,rfl,trivial⟩
  clear hMI
  rintro z f w ⟨i,hi2,hiT,rfl,hMI,hf⟩
  have ob:=hf.chain
  obtain⟨g,rfl⟩:=ob
  have hXc:=fun{w:World} h=>xcell (x:=x) (w:=w) (b3:=b3) h hE4
  have hMI0:=hMI
  obtain⟨s,roots,vR,LR,L,R,D,hM,few,hsk,hrl⟩:=hMI0
  have ob:=hM.rr.look hM.ok.len
  obtain⟨xa,xc,hxc,hlook⟩:=ob
  have hxl:=used_len s.X
  have hxu:=hM.ok.used
  have hlk:∀{w:World},Step [] ([(b3,blk 28 x.cells)]++((b53,blk 42 (w8C bp br vR))::(LR++(L++(R++D))))) w0 w→_:=fun {w} h=>hlook (w:=w) (fun p hp=>h.has p (perm_rm hp))
  by_cases hlt:i<x.E.length
  ·by_cases h200:i<200
   ·by_cases hX0:0<s.X.length
    ·have ob:∃t,x.E[i]?=some t:=⟨_,getElem?_eq_getElem hlt⟩
     obtain⟨t,ht⟩:=ob
     have hz:=hx.E t (mem_of_getElem? ht)
     have ob:=sl_at1 (c:=fun z:Int=>Value.int .i64 z) hsE ht
     obtain⟨tb,to,tc,hte,htc⟩:=ob
     cases hte
     have ob:∃r,roundZ t s.X.length=r:=⟨_,rfl⟩
     obtain⟨r,hre⟩:=ob
     have hrlt:=roundZ_lt (a:=t) hX0
     rw[hre] at hrlt
     have hrnd:=fun w=>roundL_spec (a:=t) (n:=s.X.length) hX0 (by omega) hz w
     simp only[hre] at hrnd
     have ob:∃b,s.X[r]?=some b:=⟨_,getElem?_eq_getElem hrlt⟩
     obtain⟨b,hb⟩:=ob
     have hbl:=hM.ok.len b (mem_of_getElem? hb)
     have hdl:(u8s b.d).length=32:=by rw[u8s,length_map,hbl]
     have ob:=(hlk hM.hs).2 r b hb
     obtain⟨bx,hbe,_⟩:=ob
     subst hbe
     have hrw:∀{w:World},Step [] ([(b3,blk 28 x.cells)]++((b53,blk 42 (w8C bp br vR))::(LR++(L++(R++D))))) w0 w→At w bx (0+r*34) (u8s b.d):=fun h=>by
      have ob:=(hlk h).2 r b hb
      obtain⟨bx',h1,h2⟩:=ob
      cases h1
      exact h2
     refine cq<|sr<|wm<|wF 4 u28 rfl ty25 rfl<|wl ty25 rfl (hXc (hMI.get hXm))<|wL u25 rfl<|lT<|wm<|wy<|wm<|wy<|lT<|pT<|wm ?_
     refine wy<|wm<|wy<|wn rfl<|wy<|wF 3 u54 rfl ty52 rfl<|wy<|wl ty52 rfl ((hlk hM.hs).1.cell (j:=3) rfl)<|wy<|wL u52 rfl<|wy<|xT<|pT<|wZ ?_
     refine CW.cond rfl (fun h=>?_) (fun h=>?_)
     ·have hs:=hM.hs
      have ok:=hM.ok
      refine ck<|cq<|cB<|cq<|CW.any (A:=fun w=>Step [] ([(b3,blk 28 x.cells)]++((b53,blk 42 (w8C bp br vR))::(LR++(L++(R++D))))) w0 w) (C:=fun w=>Step [] ([(b3,blk 28 x.cells)]++((b53,blk 42 (w8C bp br vR))::(LR++(L++(R++D))))) w0 w) 1000000 20 mixedP rfl ?_
      replace hs:=hs.drew
      refine aM 0 rfl<|aN 1 rfl rfl<|aF 2 rfl 3 u54 rfl ty52 rfl<|aL 3 rfl ty52 rfl (fun w hs=>(hlk hs).1.cell (j:=3) rfl)<|aF 4 rfl 4 u28 rfl ty25 rfl<|aL 5 rfl ty25 rfl (fun w hs=>hXc (hs.has (b3,blk 28 x.cells) (by simp)))<|aM 6 rfl<|aV 7 rfl (fun w hs=>run_ixSlN u25 ty3 rfl rfl (by omega))<|aL 8 rfl ty3 rfl (fun w hs=>keep1 (S:=[]) htc hs.clear)<|aM 9 rfl<|aN 10 rfl rfl<|aF 11 rfl 3 u54 rfl ty52 rfl<|aL 12 rfl ty52 rfl (fun w hs=>(hlk hs).1.cell (j:=3) rfl)<|aV 13 rfl (fun w hs=>run_lenSl u52 rfl) ?_
      refine AL.two 14 18 (by kernel_rfl) rfl rfl (by exact hs) (by exact hs) ?_ ?_
      ·refine wE rfl (run_call en46 rfl rfl) (hrnd _) ?_
       rintro e w ⟨rfl,hq⟩
       refine⟨_,rfl,?_⟩
       replace hs:=hs.callE hq
       refine wZ<|⟨rfl,?_⟩
       refine aV 15 rfl (fun w hs=>run_ixSlN u52 ty80 rfl rfl (by omega))<|aF 16 rfl 0 u80 rfl ty44 rfl<|aV 17 rfl (fun w hs=>run_loadN ty44 rfl hdl (hrw hs))<|AL.one 18 (by kernel_rfl) rfl (by exact hs) (by exact hs) ?_
       refine WL.alloc ty44 rfl hs (fun b23 w hs=>?_)
       refine wZ<|⟨rfl,?_⟩
       refine AL.one 19 (by kernel_rfl) rfl (by exact hs.tail) (by exact hs.tail) ?_
       refine WL.storeAll ty44 rfl rfl (hdl) (Cells1.u8s _) hs (by rfl) (fun w hs=>?_)
       refine wZ<|⟨rfl,?_⟩
       refine AL.end (by kernel_rfl) (by exact hs.tail) (by exact hs.tail) ?_
       replace hs:Step [] (((b23,blk 44 (u8s b.d))::(b3,blk 28 x.cells)::(b53,blk 42 (w8C bp br vR))::LR)++(L++(R++D))) w0 w:=hs
       refine cq<|CW.any (A:=fun w=>Step [] [(b23,blk 44 (u8s b.d))] w0 w) (C:=fun w=>Step [] [(b23,blk 44 (u8s b.d))] w0 w) 1000000 7 mixedP rfl ?_
       replace hs:=hs.drew
       refine aM 0 rfl<|aV 1 rfl (fun w hs=>run_loadN ty44 rfl hdl hs.a0)<|aM 3 rfl<|aV 4 rfl (fun w hs=>run_loadN ty44 rfl hdl hs.a0)<|AL.one 2 (by kernel_rfl) rfl (Step.dropR (L1:=[_]) hs) (Step.dropR (L1:=[_]) hs) ?_
       refine wE rfl (run_call en34 rfl rfl) (evict_abs hM.pr ok (Two.live (A:=_::_::_::LR) hs) hbl) ?_
       rintro e w ⟨L1,rfl,hP1,hq⟩
       refine⟨_,rfl,?_⟩
       replace hs:=Two.set (A:=_::_::_::LR) hs hq
       refine wZ<|⟨rfl,?_⟩
       refine AL.one 5 (by kernel_rfl) rfl (Step.dropR (L1:=[_]) hs) (Step.dropR (L1:=[_]) hs) ?_
       refine wE rfl (run_call en63 rfl rfl) (revict_abs hM.rr ok (Two.rlive (A:=_::_::_::LR) hs) hbl) ?_
       rintro e w ⟨R1,rfl,hR1,hq2⟩
       refine⟨_,rfl,?_⟩
       replace hs:=Two.rset (A:=_::_::_::LR) hs hq2
       refine wZ<|⟨rfl,?_⟩
       refine aV 6 rfl (fun w hs=>run_neqB u4 rfl rfl)<|AL.end (by kernel_rfl) (Step.dropR (L1:=[_]) hs) (Step.dropR (L1:=[_]) hs) ?_
       have hs2:=hs.tail
       have hMI2:MI b53 bp br k [(b3,blk 28 x.cells)] w0 40000600 400 w:=⟨s.evict b.d,roots,vR,LR,L1,R1,D,⟨hP1,hR1,ok.del b.d,hM.small.evict _,hM.vr,hM.r32,hs2.perm (by simp[append_assoc])⟩,few.evict b.d,hsk,hrl⟩
       refine CW.cond rfl (fun h=>?_) (fun h=>?_)
       ·simp at h
       refine ck<|cr<|wm<|wP ((i+1:Nat):Int)<|wA<|wZ<|(show _∧_ from⟨rfl,_,?_,i+1,h200,hlt,rfl,hMI2,rfl,rfl,rfl,rfl,rfl,rfl,trivial⟩)
       omega
      ·refine WL.alloc ty44 rfl hs (fun b23 w hs=>?_)
       refine wZ<|⟨rfl,?_⟩
       refine AL.one 14 (by kernel_rfl) rfl (by exact hs.tail) (by exact hs.tail) ?_
       refine wE rfl (run_call en46 rfl rfl) (hrnd _) ?_
       rintro e w ⟨rfl,hq⟩
       refine⟨_,rfl,?_⟩
       replace hs:=hs.callE hq
       refine wZ<|⟨rfl,?_⟩
       refine aV 15 rfl (fun w hs=>run_ixSlN u52 ty80 rfl rfl (by omega))<|aF 16 rfl 0 u80 rfl ty44 rfl<|aV 17 rfl (fun w hs=>run_loadN ty44 rfl hdl (hrw hs))<|AL.one 19 (by kernel_rfl) rfl (by exact hs.tail) (by exact hs.tail) ?_
       refine WL.storeAll ty44 rfl rfl (hdl) (Cells1.u8s _) hs (by rfl) (fun w hs=>?_)
       refine wZ<|⟨rfl,?_⟩
       refine AL.end (by kernel_rfl) (by exact hs.tail) (by exact hs.tail) ?_
       replace hs:Step [] (((b23,blk 44 (u8s b.d))::(b3,blk 28 x.cells)::(b53,blk 42 (w8C bp br vR))::LR)++(L++(R++D))) w0 w:=hs
       refine cq<|CW.any (A:=fun w=>Step [] [(b23,blk 44 (u8s b.d))] w0 w) (C:=fun w=>Step [] [(b23,blk 44 (u8s b.d))] w0 w) 1000000 7 mixedP rfl ?_
       replace hs:=hs.drew
       refine aM 0 rfl<|aV 1 rfl (fun w hs=>run_loadN ty44 rfl hdl hs.a0)<|aM 3 rfl<|aV 4 rfl (fun w hs=>run_loadN ty44 rfl hdl hs.a0)<|AL.one 2 (by kernel_rfl) rfl (Step.dropR (L1:=[_]) hs) (Step.dropR (L1:=[_]) hs) ?_
       refine wE rfl (run_call en34 rfl rfl) (evict_abs hM.pr ok (Two.live (A:=_::_::_::LR) hs) hbl) ?_
       rintro e w ⟨L1,rfl,hP1,hq⟩
       refine⟨_,rfl,?_⟩
       replace hs:=Two.set (A:=_::_::_::LR) hs hq
       refine wZ<|⟨rfl,?_⟩
       refine AL.one 5 (by kernel_rfl) rfl (Step.dropR (L1:=[_]) hs) (Step.dropR (L1:=[_]) hs) ?_
       refine wE rfl (run_call en63 rfl rfl) (revict_abs hM.rr ok (Two.rlive (A:=_::_::_::LR) hs) hbl) ?_
       rintro e w ⟨R1,rfl,hR1,hq2⟩
       refine⟨_,rfl,?_⟩
       replace hs:=Two.rset (A:=_::_::_::LR) hs hq2
       refine wZ<|⟨rfl,?_⟩
       refine aV 6 rfl (fun w hs=>run_neqB u4 rfl rfl)<|AL.end (by kernel_rfl) (Step.dropR (L1:=[_]) hs) (Step.dropR (L1:=[_]) hs) ?_
       have hs2:=hs.tail
       have hMI2:MI b53 bp br k [(b3,blk 28 x.cells)] w0 40000600 400 w:=⟨s.evict b.d,roots,vR,LR,L1,R1,D,⟨hP1,hR1,ok.del b.d,hM.small.evict _,hM.vr,hM.r32,hs2.perm (by simp[append_assoc])⟩,few.evict b.d,hsk,hrl⟩
       refine CW.cond rfl (fun h=>?_) (fun h=>?_)
       ·simp at h
       refine ck<|cr<|wm<|wP ((i+1:Nat):Int)<|wA<|wZ<|(show _∧_ from⟨rfl,_,?_,i+1,h200,hlt,rfl,hMI2,rfl,rfl,rfl,rfl,rfl,rfl,trivial⟩)
       omega
     ·cases h
    ·refine cq<|sr<|wm<|wF 4 u28 rfl ty25 rfl<|wl ty25 rfl (hXc (hMI.get hXm))<|wL u25 rfl<|lT<|wm<|wy<|wm<|wy<|lT<|pT<|wm ?_
     refine wy<|wm<|wy<|wn rfl<|wy<|wF 3 u54 rfl ty52 rfl<|wy<|wl ty52 rfl ((hlk hM.hs).1.cell (j:=3) rfl)<|wy<|wL u52 rfl<|wy<|xF<|pT<|wZ ?_
     refine CW.cond rfl (fun h=>?_) (fun h=>?_)
     ·cases h
     refine CW.exit ?_
     exact⟨rfl,hMI,rfl,rfl,rfl,rfl,rfl,trivial⟩
   ·refine cq<|sr<|wm<|wF 4 u28 rfl ty25 rfl<|wl ty25 rfl (hXc (hMI.get hXm))<|wL u25 rfl<|lT<|wm<|wy<|wm<|wy<|lF<|pT<|wm<|wz<|wz<|wz<|wz<|wz<|wz<|pF<|wZ ?_
    refine CW.cond rfl (fun h=>?_) (fun h=>?_)
    ·cases h
    refine CW.exit ?_
    exact⟨rfl,hMI,rfl,rfl,rfl,rfl,rfl,trivial⟩
  ·refine cq<|sr<|wm<|wF 4 u28 rfl ty25 rfl<|wl ty25 rfl (hXc (hMI.get hXm))<|wL u25 rfl<|lF<|wm<|wz<|wz<|pF<|wm<|wz<|wz<|wz<|wz<|wz<|wz<|pF<|wZ ?_
   refine CW.cond rfl (fun h=>?_) (fun h=>?_)
   ·cases h
   refine CW.exit ?_
   exact⟨rfl,hMI,rfl,rfl,rfl,rfl,rfl,trivial⟩
 clear hMI
 rintro f w ⟨hMI,hf⟩
 have ob:=hf.chain
 obtain⟨g,rfl⟩:=ob
 obtain⟨s,roots,vR,LR,L,R,D,hM,few,hsk,hrl⟩:=hMI
 have hs:=hM.hs
 have hal:=fun{w:World} (h:MX b53 bp br [(b3,blk 28 x.cells)] w0 s roots vR LR L R D w)=>alike8_spec (w0:=w) h.pr h.rr h.ok h.lives h.rlives
 have hMw:=fun{w:World} (h:Step [] ([(b3,blk 28 x.cells)]++((b53,blk 42 (w8C bp br vR))::(LR++(L++(R++D))))) w0 w)=>(⟨hM.pr,hM.rr,hM.ok,hM.small,hM.vr,hM.r32,h⟩:MX b53 bp br [(b3,blk 28 x.cells)] w0 s roots vR LR L R D w)
 refine cq<|CW.quiet mixedP (by kernel_rfl) hs ?_
 refine qm<|qm<|qn rfl<|qF 0 u42 rfl ty39 rfl<|qL ty39 rfl (fun w hs=>(hMw hs).wc.cell (j:=0) rfl)<|qm<|qn rfl<|qF 1 u42 rfl ty40 rfl<|qL ty40 rfl (fun w hs=>(hMw hs).wc.cell (j:=1) rfl)<|QL.enter rfl (fun w=>run_call en22 rfl rfl) (fun w hs=>hal (hMw hs)) ?_
 refine qA<|qA<|QL.nil (fun w hs=>?_)
 refine CW.ret ?_
 refine fin_ret2 rfl ?_
 exact⟨b53,bp,br,rfl,s,roots,vR,LR,L,R,D,(hMw hs).drop (A:=[(b3,blk 28 x.cells)]),few.mono (by omega),hsk,hrl⟩
end Go.Gx
namespace Go.Gx
open Go.Proofs Go.RowKit List
def kf8:(List UInt8):=[161,40,113,254,226,16,251,134,25,41,30,174,161,148,88,28,189,37,49,228,178,55,89,210,37,246,128,105,35,246,50,34]
def kd8:(List UInt8):=[57,223,184,154,222,43,219,127,98,240,8,144,244,168,7,45,94,53,177,31,0,144,215,30,171,238,148,31,57,35,52,40]
def kEnt8:Ent:=⟨[120],1,kf8⟩
def ky8:(List UInt8):=[1,1,1,1,120,32]++kf8
theorem kf8_eq:frontL [1,2] 32=kf8:=by decide +kernel
theorem ky8_eq:encB [kEnt8]=ky8:=by decide +kernel
theorem kd8_eq:frontL ky8 32=kd8:=by decide +kernel
def kS1:AS:=⟨32,1000,1,0,1,[⟨kf8,[1,2],1⟩]⟩
def kS2:AS:=⟨32,1000,2,0,2,[⟨kd8,ky8,2⟩,⟨kf8,[1,2],1⟩]⟩
theorem k8_run:(runs kS2 (rmOf 9 9 9) [rootS kd8] ws0).1=0∧reachL (runs kS2 (rmOf 9 9 9) [rootS kd8] ws0)=[kd8,kf8]:=by decide +kernel
theorem put_new{s s2:AS}{y d:U8} (h1:y.length≤1048576) (hd:frontL y s.k=d) (h2:findX d s.X=none) (h3:({ s with puts:=s.puts+1 }:AS).lay d y=some s2):s.put y=(d,0,s2):=by
 subst hd
 unfold AS.put
 simp only
 rw[if_neg (by omega),h2]
 simp only
 rw[h3]
theorem k8_put1:(newS 32 1000).put [1,2]=(kf8,0,kS1):=put_new (by decide) kf8_eq (by kernel_rfl) (by kernel_rfl)
theorem k8_put2:kS1.put ky8=(kd8,0,kS2):=put_new (by decide) kd8_eq (by kernel_rfl) (by kernel_rfl)
attribute [local irreducible] shaL cutD frontL
theorem bld_k8 (w:World):(Instr.build 115 #[(0,str [120]),(1,.int .i64 1),(2,.agg (u8s kf8).toArray)]).run Tryz.prog w=.ok (.agg kEnt8.cells.toArray) w:=by kernel_rfl
theorem fill_k8:Filled 32 2 (List.replicate 32 (Value.int .u8 0)) [(0,.agg (u8s kd8).toArray),(1,.agg (u8s kf8).toArray)] (u8s kd8++u8s kf8):=by unfold Filled;kernel_rfl
theorem kS1_ok:kS1.Ok∧kS1.Few 5:=by
 have h:=newS_ok (k:=32) (c:=1000) (by omega) (by omega) (by omega)
 have h2:=h.put [1,2]
 rw[k8_put1] at h2
 exact⟨h2,⟨by decide,by decide,by decide⟩⟩
theorem kS2_ok:kS2.Ok∧kS2.Few 5:=by
 have h2:=kS1_ok.1.put ky8
 rw[k8_put2] at h2
 exact⟨h2,⟨by decide,by decide,by decide⟩⟩
theorem rm9_ok:(rmOf 9 9 9).Ok:=⟨by decide,by decide,by decide⟩
set_option maxHeartbeats 8000000 in
theorem known8_spec (w0:World):CP 15 #[] w0 (Ret0 (.bool true) w0):=by
 have hs:Step [] [] w0 w0:=Step.refl w0
 have hfl:(u8s kf8).length=32:=rfl
 have hdl:(u8s kd8).length=32:=rfl
 have hel:kEnt8.cells.length=34:=rfl
 have heo:Oks [kEnt8]:=Oks.one ⟨rfl,by decide,by decide,by decide⟩
 have hp1:=fun{bp:Nat}{w:World}{D L:OL}{v:Value} (hR:PRep bp (newS 32 1000) D L) hw hy hr hO=>put_abs (w0:=w) (y:=[1,2]) (v:=v) (n:=0) hR (newS_ok (by omega) (by omega) (by omega)) newS_few (by omega) hw hy hr hO (by decide)
 have hp2:=fun{bp:Nat}{w:World}{D L:OL}{v:Value} (hR:PRep bp kS1 D L) hw hy hr hO=>put_abs (w0:=w) (y:=ky8) (v:=v) (n:=5) hR kS1_ok.1 kS1_ok.2 (by omega) hw hy hr hO (by decide)
 have hre:=fun{bp:Nat}{w:World}{D L:OL} (hR:PRep bp kS2 D L) hw=>reach_spec (w0:=w) (d:=kd8) (rn:=9) (rd:=9) (rb:=9) hR kS2_ok.1 kS2_ok.2 (by omega) rfl rm9_ok hw
 simp only[k8_put1] at hp1
 simp only[k8_put2] at hp2
 simp only[k8_run.1,k8_run.2] at hre
 refine calls (n:=56) Tryz.func15 rfl rfl rfl ?_
 refine sr<|wA<|wZ<|sr<|wE rfl (run_call en56 rfl rfl) (new_abs (k:=32) (c:=1000) (by omega) (by omega) (by omega) _) ?_
 rintro e w ⟨bp,L0,rfl,hP0,hq⟩
 refine⟨_,rfl,?_⟩
 replace hs:=hs.callAll0 hq
 refine wm<|wx rfl rfl<|wx rfl rfl<|wA<|wA<|wZ<|cq<|sr<|wm<|wV (run_bF (run_neq rfl rfl) (by exact fun h=>h rfl))<|wm<|wy<|wm ?_
 refine wy<|wV (run_ptrNil u39 rfl rfl)<|pF<|wZ<|CW.cond rfl (fun h=>?_) (fun h=>?_)
 ·cases h
 refine ck<|sr<|wm<|WL.buildSlice (cs:=u8s [1,2]) u76 ty5 rfl (by decide) rfl (by rfl) rfl hs (fun b23 w hs=>?_)
 replace hs:Step [] ([(b23,blk 5 (u8s [1,2]))]++(L0++[])) w0 w:=by rw[append_nil];exact hs
 have hsl23:Sl w 1 (.slice (some ⟨b23,0,none⟩) 2 2) [(1:UInt8),2].length (u8s [1,2]):=Sl.mk rfl (At.of_blk hs.hd)
 refine wE rfl (run_call en36 rfl rfl) (hp1 hP0 (Own.live (A:=[_]) hs) hsl23 (Nat.le_refl _) (.inr (fun hm=>by have hn:=hs.nodup;rw[map_append,nodup_append] at hn;exact hn.2.2 b23 (by simp) b23 (by rw[map_append];exact mem_append_left _ hm) rfl))) ?_
 rintro e w ⟨L1,D1,rfl,hP1,hq⟩
 refine⟨_,rfl,?_⟩
 replace hs:=Own.put (A:=[_]) hs hq
 refine wm<|wx rfl rfl<|wx rfl rfl<|WL.alloc ty44 rfl hs (fun b3 w hs=>?_)
 refine WL.storeAll ty44 rfl rfl ((hfl)) ((Cells1.u8s _)) hs (by rfl) (fun w hs=>?_)
 refine wA<|wZ<|sr<|wR ty44 rfl hfl hs.a0<|wV (run_build rfl (bld_k8 _))<|WL.buildSlice (cs:=kEnt8.cells) u116 ty115 rfl (by decide) rfl (filled1 hel rfl) rfl hs (fun b30 w hs=>?_)
 have hes:Es w (.slice (some ⟨b30,0,none⟩) 1 1) [kEnt8]:=⟨Sl.mk (by rw[rows_one];exact hel) (by rw[rows_one];exact At.of_blk hs.hd),heo,by simp⟩
 refine wE rfl (run_call en57 rfl rfl) (encodeR_ok _ hes (Nat.le_refl _) (by decide)) ?_
 rintro e w ⟨v5,L5,rfl,hv5,hq⟩
 refine⟨_,rfl,?_⟩
 replace hs:=Step.call0 hs hq
 refine wm<|wx rfl rfl<|wx rfl rfl<|wA<|wA<|wZ ?_
 rw[ky8_eq] at hv5
 have ob:=hv5.form
 obtain⟨ya,yc,rfl⟩:=ob
 replace hs:Step [] ((L5++[(b30,blk 115 kEnt8.cells),(b3,blk 44 (u8s kf8)),(b23,blk 5 (u8s [1,2]))])++(L1++(D1++[]))) w0 w:=by rw[append_assoc];exact hs
 have hsl5:Sl w 1 (.slice ya ky8.length yc) ky8.length (u8s ky8):=hv5.slW fun p hp=>hs.has p (by simp[hp])
 have hout:OutE (.slice ya ky8.length yc) ky8 (L1.map (·.1)):=.inr (Held.out (show Held L5 (.slice ya ky8.length yc) ky8 from⟨L5,hv5,fun p hp=>hp⟩) fun p hp hm=>by
  have hn:=hs.nodup
  rw[map_append,nodup_append] at hn
  exact hn.2.2 p.1 (by simp only[map_append,mem_append];exact .inl (mem_map_of_mem hp)) p.1 (by rw[map_append];exact mem_append_left _ hm) rfl)
 refine sr<|wm<|wm<|wE rfl (run_call en36 rfl rfl) (hp2 hP1 (Own.live hs) hsl5 (hv5.roomW (by omega)) hout) ?_
 rintro e w ⟨L2,D2,rfl,hP2,hq⟩
 refine⟨_,rfl,?_⟩
 replace hs:=Own.put hs hq
 refine wm<|wx rfl rfl<|wx rfl rfl<|WL.alloc ty44 rfl hs (fun b7 w hs=>?_)
 refine WL.storeAll ty44 rfl rfl ((hdl)) ((Cells1.u8s _)) hs (by rfl) (fun w hs=>?_)
 refine wA<|wZ ?_
 replace hs:Step [] (((b7,blk 44 (u8s kd8))::(L5++[(b30,blk 115 kEnt8.cells),(b3,blk 44 (u8s kf8)),(b23,blk 5 (u8s [1,2]))]))++(L2++(D2++(D1++[])))) w0 w:=hs
 refine sr<|wm<|wR ty44 rfl hdl hs.a0<|wV (run_build rfl (bld_room _ _ _ _))<|wE rfl (run_call en17 rfl rfl) (hre hP2 (Own.live hs)) ?_
 rintro e w ⟨v9,L9,L3,D3,rfl,hP3,hv9,hq⟩
 refine⟨_,rfl,?_⟩
 replace hs:=Own.put (A:=_::(L5++[_,_,_])) (L:=L2) hs hq
 refine wm<|wx rfl rfl<|wx rfl rfl<|wA<|wA<|wZ ?_
 have hb3:At w b3 0 (u8s kf8):=At.of_blk (hs.has (b3,blk 44 (u8s kf8)) (by simp))
 refine sr<|wm<|wV (run_bT (run_eql rfl rfl) (by rfl))<|wm<|wy<|wm<|wy<|wR ty44 rfl hdl hs.a0<|wy<|wR ty44 rfl hfl hb3<|wy<|WL.buildSlice (cs:=u8s kd8++u8s kf8) u35 ty44 rfl (by decide) rfl (fill_k8) rfl hs (fun b53 w hs=>?_)
 have hd53:Dgs w (.slice (some ⟨b53,0,none⟩) 2 2) [kd8,kf8]:=⟨Sl.mk rfl (At.of_blk hs.hd),by decide,by decide⟩
 have hd9:Dgs w v9 [kd8,kf8]:=Dgs.own hv9 (fun p hp=>hs.has p (by simp[hp])) (by decide) (by decide)
 refine wy<|wE rfl (run_call en20 rfl rfl) (sameD_spec hd9 hd53) ?_
 rintro e w ⟨rfl,hq⟩
 refine⟨_,rfl,?_⟩
 replace hs:=hs.callE hq
 refine pT<|wA<|wZ<|CW.ret ?_
 refine fin_ret1 rfl ?_
 exact⟨rfl,hs.clear⟩
end Go.Gx
namespace Go.Gx
open Go.Proofs Go.RowKit List
attribute [local irreducible] shaL cutD frontL
theorem visit_g{s:AS}{rm:Rm}{x:Std}{t:WS}{k:Nat} (h:t.Good k):(visit s rm x t).2.2.g≤65537:=by
 have h1:=h.g
 have h2:=h.n
 unfold visit
 split
 ·show t.g≤_;omega
 split
 ·show t.g≤_;omega
 split
 ·show t.g+1≤_;omega
 split
 ·split
  ·show t.g+1≤_;omega
  ·show t.g+1≤_;omega
 ·split
  ·show t.g+1≤_;omega
  ·show t.g+1≤_;omega
theorem seqS_g{f:Std→WS→Int×WS} (hf:∀x t,t.Good 0→(f x t).2.g≤65537) (hg:∀x t,t.Good 0→(f x t).1=0→(f x t).2.Good 0):∀{l:List Std}{t:WS},t.Good 0→(seqS f l t).2.g≤65537
 | [],t,h=>by have h1:=h.g;have h2:=h.n;show t.g≤_;omega
 | x::l,t,h=>by
  rw[seqS]
  by_cases c:(f x t).1≠0
  ·rw[if_pos c];exact hf x t h
  ·rw[if_neg c]
   exact seqS_g hf hg (hg x t h (by simpa using c))
theorem standP_g{s:AS}{rm:Rm} (hrm:rm.Ok):∀(n:Nat){x:Std}{t:WS},t.Good (kOf x)→(standP s rm n x t).2.g≤65537
 | 0,x,t,h=>by have h1:=h.g;have h2:=h.n;show t.g≤_;omega
 | n+1,x,t,h=>by
  rw[standP]
  by_cases c:(visit s rm x t).1≠0
  ·rw[if_pos c];exact visit_g h
  ·rw[if_neg c]
   exact seqS_g (fun y u hu=>standP_g hrm n (push_good y hu)) (fun y u hu hy=>standP_good hrm n (push_good y hu) hy) (visit_good hrm h (by simpa using c))
theorem runs_g{s:AS}{rm:Rm} (hrm:rm.Ok) (d:U8):(runs s rm [rootS d] ws0).2.g≤65537:=by
 rw[runs_root]
 exact standP_g hrm 34 (ws0_good.mono (by omega))
theorem Stup.Ok.step0{x:Stup}{w w':World}{L:OL} (h:x.Ok w) (hs:Step [] L w w'):x.Ok w':=
 ⟨h.cap,h.sT.step0 hs,fun t ht=>⟨(h.T t ht).1.step0 hs,(h.T t ht).2⟩,h.sN.step0 hs,fun t ht=>⟨(h.N t ht).1.step0 hs,(h.N t ht).2⟩,h.sB.step0 hs,fun t ht=>⟨(h.B t ht).1.step0 hs,(h.B t ht).2⟩,h.sE.step0 hs,h.E,h.sP.step0 hs,fun t ht=>⟨(h.P t ht).1,(h.P t ht).2.1.step0 hs,(h.P t ht).2.2⟩⟩
section
variable{f:Slots}{w:World}{d:Option Tmp}{ty:TypeId}{pos:String}{af:Array Edge}{x y:Operand}{T':TypeId}
end
theorem perm_w1{α:Type}{a b c:α}{LR L R D:List α}:((a::(LR++(L++(R++D))))++[b,c]).Perm ((b::c::a::LR)++(L++(R++D))):=by
 classical exact perm_iff_count.2 fun x=>by simp only[count_append,count_cons,count_nil];omega
section
variable{wd cp z rn rd rb:Int}{x:Stup}
end
end Go.Gx
namespace Go.Gx
open Go.Proofs Go.ChangeShapes Go.WideShapes Go.ChangeAt Go.RowKit Go.Deep List
open Go.Proofs.YtplmnkogkfhaiaaGreat (Rows.uptoBulk Rows.uptoBulkAll)
theorem Step.below{L:OL}{w w':World} (h:Step [] L w w'):Below w.heap.size w w':=
 ⟨h.chg.os,h.chg.tape,h.chg.output,h.chg.size,fun k hk=>h.chg.block k hk (by simp)⟩
section
variable{H:Type}
theorem bulk_pos:∀d:DataW H,1≤Rows.uptoBulk d
 | .lit x=>by cases x <;> simp[Rows.uptoBulk]
 | .nil=>by simp[Rows.uptoBulk]
 | .ptr d=>by simp[Rows.uptoBulk]
 | .slice a b=>by simp[Rows.uptoBulk]
 | .agg a=>by simp[Rows.uptoBulk]
 | .iface _ d=>by simp[Rows.uptoBulk]
 | .map a=>by simp[Rows.uptoBulk]
 | .held _=>by simp[Rows.uptoBulk]
theorem bulk_len:∀l:List (DataW H),l.length≤Rows.uptoBulkAll l
 | []=>by simp[Rows.uptoBulkAll]
 | d::l=>by
  have h1:=bulk_pos d
  have h2:=bulk_len l
  simp only[Rows.uptoBulkAll,length_cons]
  omega
theorem bulk_mem:∀{l:List (DataW H)}{d:DataW H},d∈l→Rows.uptoBulk d≤Rows.uptoBulkAll l
 | x::l,d,h=>by
  simp only[Rows.uptoBulkAll]
  rcases mem_cons.1 h with rfl | h
  ·omega
  ·have:=bulk_mem h;omega
end
theorem mapM_get{α β:Type}{f:α→Option β}:∀{l:List α}{r:List β},l.mapM f=some r→r.length=l.length∧∀(i:Nat) (h:i<l.length),f l[i]=r[i]?
 | [],r,h=>by
  simp at h
  subst h
  exact⟨rfl,fun i h=>by simp at h⟩
 | x::l,r,h=>by
  rw[mapM_cons] at h
  cases hx:f x with
  | none=>rw[hx] at h;cases h
  | some y=>
   cases hl:l.mapM f with
   | none=>rw[hx,hl] at h;cases h
   | some ys=>
    rw[hx,hl] at h
    obtain rfl:y::ys=r:=by simpa using h
    have ob:=mapM_get hl
    obtain⟨h1,h2⟩:=ob
    refine⟨by simp[h1],fun i hi=>?_⟩
    cases i with
    | zero=>simpa using hx
    | succ i=>simpa using h2 i (by simpa using hi)
theorem At.cells{w:World}{base b off n:Nat}{cs:List Value} (h:w.cells? base ⟨b,off,none⟩ n=some cs):cs.length=n∧At w b off cs:=by
 unfold World.cells? at h
 split at h
 ·have ob:=mapM_get h
  obtain⟨h1,h2⟩:=ob
  rw[length_range] at h1
  refine⟨h1,fun j v hj=>?_⟩
  have hlt:j<n:=by
   rw[←h1]
   exact(List.getElem?_eq_some_iff.1 hj).1
  have:=h2 j (by simpa using hlt)
  rw[getElem_range,hj,add_off] at this
  exact this
 ·cases h
theorem choose_any{α:Type}{p:Nat→α→Prop}:∀n:Nat,(∀i,i<n→∃x,p i x)→∃l:List α,l.length=n∧∀(i:Nat) (h:i<l.length),p i l[i]
 | 0,_=>⟨[],rfl,fun i h=>by simp at h⟩
 | n+1,h=>by
  have ob:=choose_any n fun i hi=>h i (by omega)
  obtain⟨l,hl,hp⟩:=ob
  have ob:=h n (by omega)
  obtain⟨x,hx⟩:=ob
  refine⟨l++[x],by simp[hl],fun i hi=>?_⟩
  by_cases hin:i<l.length
  ·rw[getElem_append_left hin];exact hp i hin
  ·have:i=l.length:=by simp at hi;omega
   subst this
   simp[hl]
   rw[hl] at *
   exact hx
theorem cell_spot{w:World}{a:Addr}{v:Value} (h:w.cell? a=some v):a.spot=none:=by
 unfold World.cell? at h
 split at h
 ·split at h
  ·cases h
  ·rename_i hs
   cases hsp:a.spot with
   | none=>rfl
   | some s=>rw[hsp] at hs;simp at hs
 ·cases h
theorem cells_spot{w:World}{base n:Nat}{a:Addr}{cs:List Value} (h:w.cells? base a n=some cs) (hn:0<n):a.spot=none:=by
 unfold World.cells? at h
 split at h
 ·have ob:=mapM_get h
  obtain⟨h1,h2⟩:=ob
  rw[length_range] at h1
  have h3:=h2 0 (by simpa using hn)
  rw[getElem_range,getElem?_eq_getElem (by omega)] at h3
  exact cell_spot (a:=a.add 0) h3
 ·cases h
section
variable{H:Type}{enc:TypeId×Value→H}{w:World}{spare:Nat→Bool}{held:Bool}
theorem trodAll_stays{P:Program} (hl:laidOutB P=true){W W':World} (hb:Below W.heap.size W W'):∀{ts:List TypeId}{vs:List Value}{ds:List (DataW H)}{p:List MemPlace},
  DataW.TrodAll enc P W 0 (fun _=>true) true ts vs ds p→(∀x∈p,x.block<W.heap.size)→(∀t∈ts,P.readableRec t=true∧t<P.types.size)→DataW.TrodAll enc P W' 0 (fun b=>decide (b<W.heap.size)) true ts vs ds p
 | [],vs,ds,p,h,_,_=>by
  have ob:=trodAll_nil h
  obtain⟨rfl,rfl,rfl⟩:=ob
  exact trodAll_mk0
 | t::ts,vs,ds,p,h,hlt,hr=>by
  have ob:=trodAll_cons h
  obtain⟨v,vs',d,ds',p',q,rfl,rfl,rfl,h0,h1⟩:=ob
  exact trodAll_cons_mk (Below.trod hl (hr t (by simp)).1 (hr t (by simp)).2 h0 hb (fun x hx=>hlt x (by simp[hx]))) (trodAll_stays hl hb h1 (fun x hx=>hlt x (by simp[hx])) (fun t ht=>hr t (by simp[ht])))
theorem open_i64{v:Value}{d:DataW H}{ps:List MemPlace}{r:Reach}{b0:Nat}{base:Nat} (hval:Value.okWide Tryz.prog w r b0 3 v) (h:DataW.Trod enc Tryz.prog w base spare held 3 v d ps):∃n:Int,v=.int .i64 n∧-9223372036854775808≤n∧n≤9223372036854775807:=by
 have ob:=open_int u3 hval h
 obtain⟨n,rfl,_,_,hw⟩:=ob
 simp only[Lit.wf,Bool.and_eq_true,decide_eq_true_eq] at hw
 have h0:(IntKind.i64).min = -9223372036854775808:=by decide
 have h255:(IntKind.i64).max=9223372036854775807:=by decide
 rw[h0,h255] at hw
 exact⟨n,rfl,hw.1,hw.2⟩
end
def i64s (n:Int):Prop:=-9223372036854775808≤n∧n≤9223372036854775807
theorem lit_i64{n:Int} (h:(Lit.int .i64 n).wf=true):i64s n:=by
 simp only[Lit.wf,Bool.and_eq_true,decide_eq_true_eq] at h
 have h0:(IntKind.i64).min = -9223372036854775808:=by decide
 have h255:(IntKind.i64).max=9223372036854775807:=by decide
 rw[h0,h255] at h
 exact h
theorem icells3{cs:List Value}{p v:Value}{o:Bool} (hl:cs.length=3) (h0:(cs.drop 0).take 1=[p]) (h1:(cs.drop 1).take 1=[.bool o]) (h2:(cs.drop 2).take 1=[v]):cs=[p,.bool o,v]:=by
 match cs,hl with
 | [a0,a1,a2],_=>
  have e0:a0=p:=by simpa using h0
  have e1:a1=.bool o:=by simpa using h1
  have e2:a2=v:=by simpa using h2
  rw[e0,e1,e2]
theorem flat_lens{α:Type}{c:α→List Value}{sz:Nat}:∀l:List α,(∀y∈l,(c y).length=sz)→(l.flatMap c).length=l.length*sz
 | [],_=>(Nat.zero_mul _).symm
 | x::l,h=>by
  rw[flatMap_cons,length_append,h x (by simp),flat_lens l fun y hy=>h y (by simp[hy]),length_cons,Nat.succ_mul,Nat.add_comm]
theorem At.joins{α:Type}{c:α→List Value}{sz:Nat}{w:World}{b:Nat}:∀(l:List α) (off:Nat),(∀y∈l,(c y).length=sz)→(∀(i:Nat) (h:i<l.length),At w b (off+i*sz) (c l[i]))→At w b off (l.flatMap c)
 | [],_,_,_=>At.nil
 | x::l,off,hl,h=>by
  have h1:=h 0 (by simp)
  have hx:=hl x (by simp)
  have h2:=At.joins (c:=c) (sz:=sz) l (off+sz) (fun y hy=>hl y (by simp[hy])) (fun i hi=>by
   have:=h (i+1) (by simpa using hi)
   rw[show off+sz+i*sz=off+(i+1)*sz by rw[Nat.succ_mul];omega]
   simpa using this)
  intro j v hj
  rw[flatMap_cons,getElem?_append] at hj
  split at hj
  ·have:=h1 j v hj
   simpa using this
  ·rw[hx] at hj
   have:=h2 (j - sz) v hj
   rename_i hlt
   rw[hx] at hlt
   rwa [show off+sz+(j - sz)=off+j by omega] at this
section
variable{H:Type}{enc:TypeId×Value→H}{w:World}{base:Nat}{spare:Nat→Bool}{held:Bool}{N:Nat}
theorem trod_bytes{fuel:Nat}{cs:List Value}{x:DataW H×List MemPlace} (h:DataW.trod enc Tryz.prog w base spare held fuel 76 cs=some x):∃v s,cs=[v]∧Sl w 1 v s.length (u8s s)∧Room v∧s.length≤9223372036854775807:=by
 have hc1:Tryz.prog.cellsOf 5=1:=ty5.cellsOf
 rcases ChangeShapes.open_ints (k:=.u8) u76 u5 hc1 h with⟨hc,_⟩ | ⟨a,len,cap,zs,hc,_,hlc,hcm,hm,hx,hi,hwf⟩
 ·exact⟨_,[],hc,Sl.nil _ _ _,Nat.le_refl 0,by simp⟩
 ·have hmx:maxLen=9223372036854775807:=by decide
  by_cases h0:len=0
  ·subst h0
   exact⟨_,[],hc,⟨rfl,.inl ⟨_,_,rfl,rfl⟩⟩,Nat.zero_le _,by simp⟩
  have hle:len≤zs.length:=by rw[hm];split <;> omega
  have hspot:a.spot=none:=cell_spot (a:=a.add 0) (hi 0 (by omega))
  obtain⟨b,off,sp⟩:=a
  simp only at hspot
  subst hspot
  have hval8:∀n∈zs,∃c:UInt8,n=c.toNat:=fun n hn=>by
   have hw:=hwf n hn
   simp only[Lit.wf,Bool.and_eq_true,decide_eq_true_eq] at hw
   have h0:(IntKind.u8).min=0:=by decide
   have h255:(IntKind.u8).max=255:=by decide
   rw[h0,h255] at hw
   refine⟨UInt8.ofNat n.toNat,?_⟩
   rw[UInt8.toNat_ofNat_of_lt' (show n.toNat<256 by omega)]
   omega
  have hu:((zs.take len).map fun n=>Value.int .u8 n)=u8s ((zs.take len).map fun n=>UInt8.ofNat n.toNat):=by
   unfold u8s
   rw[map_map]
   apply map_congr_left
   intro n hn
   have ob:=hval8 n (mem_of_mem_take hn)
   obtain⟨c,rfl⟩:=ob
   simp
  refine⟨_,(zs.take len).map fun n=>UInt8.ofNat n.toNat,hc,?_,hlc,by simp;omega⟩
  have hl2:((zs.take len).map fun n=>UInt8.ofNat n.toNat).length=len:=by simp;omega
  rw[hl2]
  refine .mk (by simp[u8s];omega) ?_
  rw[←hu]
  intro j v hj
  rw[getElem?_map] at hj
  cases hz:(zs.take len)[j]? with
  | none=>rw[hz] at hj;cases hj
  | some n=>
   rw[hz] at hj
   obtain rfl:Value.int .u8 n=v:=by simpa using hj
   have hjl:j<len:=by
    have:=(List.getElem?_eq_some_iff.1 hz).1
    simp at this
    omega
   have h2:=hi j (by omega)
   rw[add_off] at h2
   rw[h2]
   rw[getElem?_take,if_pos hjl] at hz
   simp[getD,hz]
theorem trod_dig{fuel:Nat}{cs:List Value}{x:DataW H×List MemPlace} (h:DataW.trod enc Tryz.prog w base spare held fuel 44 cs=some x):∃d:U8,d.length=32∧cs=u8s d:=by
 have ob:=DataW.trod_array u44 h
 obtain⟨xs,m,rfl,_,hl,hxl,hi⟩:=ob
 have hl32:cs.length=32:=hl.trans ty44.cellsOf
 have each:∀(i:Nat) (h:i<cs.length),∃c:UInt8,cs[i]=.int .u8 c.toNat:=fun i hlt=>by
  have h1:=hi i (by omega)
  rw[getElem?_eq_getElem (by omega)] at h1
  have hc:Tryz.prog.cellsOf 5=1:=ty5.cellsOf
  rw[hc,Nat.mul_one] at h1
  have ob:=DataW.trod_int u5 h1
  obtain⟨n,hn,_,hw⟩:=ob
  simp only[Lit.wf,Bool.and_eq_true,decide_eq_true_eq] at hw
  have h0:(IntKind.u8).min=0:=by decide
  have h255:(IntKind.u8).max=255:=by decide
  rw[h0,h255] at hw
  refine⟨UInt8.ofNat n.toNat,?_⟩
  have:cs[i]=.int .u8 n:=by
   rw[drop_eq_getElem_cons hlt] at hn
   exact(List.cons.inj hn).1
  rw[this,UInt8.toNat_ofNat_of_lt' (show n.toNat<256 by omega)]
  congr 1
  omega
 refine⟨(List.range 32).map fun i=>if h:i<cs.length then Classical.choose (each i h) else 0,by simp,?_⟩
 apply ext_getElem
 ·simp[u8s,hl32]
 ·intro i h1 h2
  have:=Classical.choose_spec (each i h1)
  simp[u8s,h1]
  exact this
theorem trod_ent{fuel:Nat}{cs:List Value}{x:DataW H×List MemPlace} (h:DataW.trod enc Tryz.prog w base spare held fuel 115 cs=some x):∃y:Ent,y.ok∧cs=y.cells:=by
 have ob:=trod_struct3 u115 h
 obtain⟨y0,y1,y2,n,rfl,hl,h0,h1,h2⟩:=ob
 have hl34:cs.length=34:=hl.trans ty115.cellsOf
 have c9:Tryz.prog.cellsOf 9=1:=ty9.cellsOf
 have c3:Tryz.prog.cellsOf 3=1:=ty3.cellsOf
 have c46:Tryz.prog.cellsOf 44=32:=ty44.cellsOf
 have ob:=DataW.trod_string u9 h0
 obtain⟨s,hs,hx0,hsz⟩:=ob
 have ob:=DataW.trod_int u3 h1
 obtain⟨k,hk,_,hw⟩:=ob
 have ob:=trod_dig h2
 obtain⟨d,hd,hdd⟩:=ob
 rw[c9] at hs
 rw[c3] at hk
 rw[c46] at hdd
 simp only[Lit.wf,Bool.and_eq_true,decide_eq_true_eq] at hw
 have h0:(IntKind.i64).min = -9223372036854775808:=by decide
 have h255:(IntKind.i64).max=9223372036854775807:=by decide
 rw[h0,h255] at hw
 have hmx:maxLen=9223372036854775807:=by decide
 refine⟨⟨s.data.toList,k,d⟩,⟨hd,hw.1,hw.2,?_⟩,?_⟩
 ·show s.data.size≤_
  have:s.data.size=s.size:=rfl
  omega
 ·match cs,hl34 with
  | a::b::r,hl34=>
   have ha:a=.string s:=by simpa using hs
   have hb:b=.int .i64 k:=by simpa using hk
   have hr:r=u8s d:=by
    have:r.take 32=u8s d:=by simpa using hdd
    rwa [take_of_length_le (by simp at hl34;omega)] at this
   rw[ha,hb,hr]
   rfl
theorem open_many{α:Type}{st t:TypeId}{sz:Nat}{c:α→List Value}{Ok:α→Prop} (hu:Tryz.prog.underlying st=some (.slice t)) (hc:Tryz.prog.cellsOf t=sz) (hsz:0<sz) (hlen:∀y,Ok y→(c y).length=sz)
  (el:∀{fuel:Nat}{cs:List Value}{x:DataW H×List MemPlace},DataW.trod enc Tryz.prog w base spare held fuel t cs=some x→Rows.uptoBulk x.1≤N→∃y,Ok y∧cs=c y)
  {fuel:Nat}{cs:List Value}{x:DataW H×List MemPlace} (h:DataW.trod enc Tryz.prog w base spare held fuel st cs=some x) (hN:Rows.uptoBulk x.1≤N) :
  ∃(v:Value) (l:List α),cs=[v]∧Sl w sz v l.length (l.flatMap c)∧(∀y∈l,Ok y)∧Room v∧l.length≤9223372036854775807:=by
 rcases open_slice hu h with⟨rfl,_⟩ | ⟨a,len,cap,m,n,D,Pl,rfl,_,hlc,hcm,hm,rfl,hi⟩
 ·exact⟨_,[],rfl,Sl.nil _ _ _,fun x hx=>(by cases hx),Nat.le_refl 0,by simp⟩
 ·have hmx:maxLen=9223372036854775807:=by decide
  have hle:len≤m:=by rw[hm];split <;> omega
  have hlen2:=bulk_len ((List.range len).map D)
  simp only[length_map,length_range] at hlen2
  simp only[Rows.uptoBulk] at hN
  by_cases h0:len=0
  ·subst h0
   exact⟨_,[],rfl,⟨by simp,.inl ⟨_,_,rfl,rfl⟩⟩,fun x hx=>(by cases hx),hlc,by simp⟩
  have hspot:a.spot=none:=by
   have ob:=hi 0 (by omega)
   obtain⟨cs',h1,_⟩:=ob
   rw[hc] at h1
   have h5:=cells_spot (a:=a.add (0*sz)) h1 hsz
   revert h5
   cases h6:a.spot <;> simp[Addr.add,h6]
  obtain⟨b,off,sp⟩:=a
  simp only at hspot
  subst hspot
  obtain⟨l,hl,hp⟩:=choose_any (p:=fun i x=>Ok x∧At w b (off+i*sz) (c x)) len fun i hi'=>by
   have ob:=hi i (by omega)
   obtain⟨cs',h1,h2⟩:=ob
   rw[hc,add_off] at h1
   have h7:Rows.uptoBulk (D i)≤Rows.uptoBulkAll ((List.range len).map D):=bulk_mem (mem_map.2 ⟨i,by simp;omega,rfl⟩)
   have ob:=el h2 (by show Rows.uptoBulk (D i)≤N;omega)
   obtain⟨x,hxo,hxc⟩:=ob
   exact⟨x,hxo,hxc▸(At.cells h1).2⟩
  have hok:∀x∈l,Ok x:=fun x hx=>by
   have ob:=mem_iff_getElem.1 hx
   obtain⟨i,hi',rfl⟩:=ob
   exact(hp i hi').1
  have hj:=At.joins (w:=w) (b:=b) l off (fun y hy=>hlen y (hok y hy)) (fun i hi=>(hp i hi).2)
  refine⟨_,l,rfl,?_,hok,hlc,by omega⟩
  exact hl▸.mk (flat_lens l fun y hy=>hlen y (hok y hy)) hj
theorem trod_it{fuel:Nat}{cs:List Value}{x:DataW H×List MemPlace} (h:DataW.trod enc Tryz.prog w base spare held fuel 155 cs=some x) (hN:Rows.uptoBulk x.1≤N):∃y:It,(y.Ok w∧y.p.length≤N)∧cs=itC y.p y.d y.v:=by
 have ob:=DataW.trod_struct u155 h
 obtain⟨xs,m,_,hxe,hl,hlen,hf⟩:=ob
 have hl3:cs.length=3:=hl.trans ty155.cellsOf
 match xs,hlen,hxe with
 | [y0,y1,y2],_,hxe=>
  have f0:=hf 0 _ rfl
  have f1:=hf 1 _ rfl
  have f2:=hf 2 _ rfl
  have ob:=DataW.trod_string u9 (f0.trans rfl)
  obtain⟨s,hs,hse,hsz⟩:=ob
  have ob:=DataW.trod_bool u4 (f1.trans rfl)
  obtain⟨o,ho,_⟩:=ob
  have ob:=trod_bytes (f2.trans rfl)
  obtain⟨vb,b,hb,hbs,hbr,hbl⟩:=ob
  replace hs:(cs.drop 0).take (Tryz.prog.cellsOf 9)=[.string s]:=hs
  replace ho:(cs.drop 1).take (Tryz.prog.cellsOf 4)=[.bool o]:=ho
  replace hb:(cs.drop 2).take (Tryz.prog.cellsOf 76)=[vb]:=hb
  rw[ty9.cellsOf] at hs
  rw[ty4.cellsOf] at ho
  rw[ty76.cellsOf] at hb
  have hmx:maxLen=9223372036854775807:=by decide
  refine⟨⟨s.data.toList,o,vb,b⟩,⟨⟨hbs,?_,hbl⟩,?_⟩,icells3 hl3 hs ho hb⟩
  ·show s.data.size≤_
   have:s.data.size=s.size:=rfl
   omega
  ·rw[hxe] at hN
   show s.data.toList.length≤_
   simp only[map_cons,map_nil,Rows.uptoBulk,Rows.uptoBulkAll,hse] at hN
   omega
theorem trod_int1{fuel:Nat}{cs:List Value}{x:DataW H×List MemPlace} (h:DataW.trod enc Tryz.prog w base spare held fuel 3 cs=some x):∃n:Int,i64s n∧cs=[.int .i64 n]:=by
 have ob:=DataW.trod_int u3 h
 obtain⟨n,hn,_,hw⟩:=ob
 exact⟨n,lit_i64 hw,hn⟩
theorem trod_plant{fuel:Nat}{cs:List Value}{x:DataW H×List MemPlace} (h:DataW.trod enc Tryz.prog w base spare held fuel 124 cs=some x):∃t:Int×Value×List UInt8,((-9223372036854775808≤t.1∧t.1≤9223372036854775807)∧Sl w 1 t.2.1 t.2.2.length (u8s t.2.2)∧Room t.2.1)∧cs=plC t:=by
 have ob:=DataW.trod_struct u124 h
 obtain⟨xs,m,_,hxe,hl,hlen,hf⟩:=ob
 have hl3:cs.length=2:=hl.trans ty124.cellsOf
 match xs,hlen with
 | [y0,y1],_=>
  have f0:=hf 0 _ rfl
  have f1:=hf 1 _ rfl
  have ob:=trod_int1 (f0.trans rfl)
  obtain⟨n,hn,h0⟩:=ob
  have ob:=trod_bytes (f1.trans rfl)
  obtain⟨vb,b,hb,hbs,hbr,hbl⟩:=ob
  replace h0:(cs.drop 0).take (Tryz.prog.cellsOf 3)=[.int .i64 n]:=h0
  replace hb:(cs.drop 1).take (Tryz.prog.cellsOf 76)=[vb]:=hb
  rw[ty3.cellsOf] at h0
  rw[ty76.cellsOf] at hb
  refine⟨⟨n,vb,b⟩,⟨hn,hbs,hbr⟩,?_⟩
  match cs,hl3 with
  | [a,c],_=>
   have e0:a=.int .i64 n:=by simpa using h0
   have e1:c=vb:=by simpa using hb
   rw[e0,e1];rfl
theorem flat1{α:Type} (c:α→Value) (l:List α):(l.flatMap fun t=>[c t])=l.map c:=by
 induction l with
 | nil=>rfl
 | cons x l ih=>rw[flatMap_cons,ih];rfl
theorem trod_setup{fuel:Nat}{cs:List Value}{x:DataW H×List MemPlace} (h:DataW.trod enc Tryz.prog w base spare held fuel 28 cs=some x) (hN:Rows.uptoBulk x.1≤1048576):∃y:Stup,y.Ok w∧cs=y.cells:=by
 have ob:=DataW.trod_struct u28 h
 obtain⟨xs,m,_,hxe,hl,hlen,hf⟩:=ob
 have hl6:cs.length=6:=hl.trans ty28.cellsOf
 match xs,hlen,hxe with
 | [y0,y1,y2,y3,y4,y5],_,hxe=>
  rw[hxe] at hN
  simp only[map_cons,map_nil,Rows.uptoBulk,Rows.uptoBulkAll] at hN
  have ob:=trod_int1 ((hf 0 _ rfl).trans rfl)
  obtain⟨n,hn,h0⟩:=ob
  have ob:=open_many (enc:=enc) (w:=w) (base:=base) (spare:=spare) (held:=held) (N:=1048576) (c:=fun t:Value×List It=>[t.1]) (Ok:=fun t=>Its w t.1 t.2∧Room t.1∧∀y∈t.2,y.p.length≤1048576) u22 ty65.cellsOf (by decide) (fun _ _=>rfl)
  obtain⟨vT,T,hT,sT,oT,-,-⟩:=ob
   (fun h hN=>by
    have ob:=open_many (enc:=enc) (w:=w) (base:=base) (spare:=spare) (held:=held) (N:=1048576) (c:=fun x:It=>itC x.p x.d x.v) (Ok:=fun y=>y.Ok w∧y.p.length≤1048576) u65 ty155.cellsOf (by decide) (fun _ _=>rfl) (fun h hN=>trod_it h hN) h hN
    obtain⟨v,l,hc,hs,ho,hr,hl⟩:=ob
    exact⟨(v,l),⟨⟨hs,fun x hx=>(ho x hx).1,hl⟩,hr,fun x hx=>(ho x hx).2⟩,hc⟩) ((hf 1 _ rfl).trans rfl) (by omega)
  have ob:=open_many (enc:=enc) (w:=w) (base:=base) (spare:=spare) (held:=held) (N:=1048576) (c:=fun t:Value×List Ent=>[t.1]) (Ok:=fun t=>Es w t.1 t.2∧Room t.1) u23 ty116.cellsOf (by decide) (fun _ _=>rfl)
  obtain⟨vN,K,hK,sK,oK,-,-⟩:=ob
   (fun h hN=>by
    have ob:=open_many (enc:=enc) (w:=w) (base:=base) (spare:=spare) (held:=held) (N:=1048576) (c:=Ent.cells) (Ok:=Ent.ok) u116 ty115.cellsOf (by decide) (fun _ h=>Ent.cells_len h) (fun h _=>trod_ent h) h hN
    obtain⟨v,l,hc,hs,ho,hr,hl⟩:=ob
    exact⟨(v,l),⟨⟨hs,ho,hl⟩,hr⟩,hc⟩) ((hf 2 _ rfl).trans rfl) (by omega)
  have ob:=open_many (enc:=enc) (w:=w) (base:=base) (spare:=spare) (held:=held) (N:=1048576) (c:=fun t:Value×List UInt8=>[t.1]) (Ok:=fun t=>Sl w 1 t.1 t.2.length (u8s t.2)∧Room t.1) u24 ty76.cellsOf (by decide) (fun _ _=>rfl)
  obtain⟨vB,B,hB,sB,oB,-,-⟩:=ob
   (fun h hN=>by
    have ob:=trod_bytes h
    obtain⟨v,b,hc,hs,hr,hl⟩:=ob
    exact⟨(v,b),⟨hs,hr⟩,hc⟩) ((hf 3 _ rfl).trans rfl) (by omega)
  have ob:=open_many (enc:=enc) (w:=w) (base:=base) (spare:=spare) (held:=held) (N:=1048576) (c:=fun z:Int=>[.int .i64 z]) (Ok:=i64s) u25 ty3.cellsOf (by decide) (fun _ _=>rfl) (fun h _=>trod_int1 h) ((hf 4 _ rfl).trans rfl) (by omega)
  obtain⟨vE,E,hE,sE,oE,-,-⟩:=ob
  have ob:=open_many (enc:=enc) (w:=w) (base:=base) (spare:=spare) (held:=held) (N:=1048576) (c:=plC) (Ok:=fun t=>(-9223372036854775808≤t.1∧t.1≤9223372036854775807)∧Sl w 1 t.2.1 t.2.2.length (u8s t.2.2)∧Room t.2.1) u26 ty124.cellsOf (by decide) (fun _ _=>rfl) (fun h _=>trod_plant h) ((hf 5 _ rfl).trans rfl) (by omega)
  obtain⟨vP,P,hP,sP,oP,-,-⟩:=ob
  rw[flat1] at sT sK sB sE
  refine⟨⟨n,vT,T,vN,K,vB,B,vE,E,vP,P⟩,⟨hn,sT,fun t ht=>⟨(oT t ht).1,(oT t ht).2.1,fun y hy=>Nat.lt_of_le_of_lt ((oT t ht).2.2 y hy) (by decide)⟩,sK,oK,sB,oB,sE,oE,sP,oP⟩,?_⟩
  replace h0:(cs.drop 0).take (Tryz.prog.cellsOf 3)=[.int .i64 n]:=h0
  replace hT:(cs.drop 1).take (Tryz.prog.cellsOf 22)=[vT]:=hT
  replace hK:(cs.drop 2).take (Tryz.prog.cellsOf 23)=[vN]:=hK
  replace hB:(cs.drop 3).take (Tryz.prog.cellsOf 24)=[vB]:=hB
  replace hE:(cs.drop 4).take (Tryz.prog.cellsOf 25)=[vE]:=hE
  replace hP:(cs.drop 5).take (Tryz.prog.cellsOf 26)=[vP]:=hP
  rw[ty3.cellsOf] at h0
  rw[ty22.cellsOf] at hT
  rw[ty23.cellsOf] at hK
  rw[ty24.cellsOf] at hB
  rw[ty25.cellsOf] at hE
  rw[ty26.cellsOf] at hP
  match cs,hl6 with
  | [a0,a1,a2,a3,a4,a5],_=>
   have e0:a0=.int .i64 n:=by simpa using h0
   have e1:a1=vT:=by simpa using hT
   have e2:a2=vN:=by simpa using hK
   have e3:a3=vB:=by simpa using hB
   have e4:a4=vE:=by simpa using hE
   have e5:a5=vP:=by simpa using hP
   rw[e0,e1,e2,e3,e4,e5];rfl
theorem open_setup{v:Value}{d:DataW H}{ps:List MemPlace}{r:Reach}{b0:Nat} (hval:Value.okWide Tryz.prog w r b0 28 v) (h:DataW.Trod enc Tryz.prog w base spare held 28 v d ps):Rows.uptoBulk d≤1048576→∃x:Stup,v=.agg x.cells.toArray∧x.Ok w:=fun hN=>by
 obtain⟨fuel,h⟩:=h
 have ob:=trod_setup h hN
 obtain⟨x,hx,hc⟩:=ob
 refine⟨x,?_,hx⟩
 cases v with
 | agg cs=>
  have:cs.toList=x.cells:=hc
  rw[←this]
 | _=>exfalso;simp[Value.okWide,Cell.okWide] at hval
end
end Go.Gx
namespace Go.Gx
inductive Goes (P:(List UInt8)→List (List UInt8)):List (List UInt8)→List (List UInt8)→List (List UInt8)→List (List UInt8)→List (List UInt8)→Nat→Prop
 | nil (g o:List (List UInt8)):Goes P [] g o g o 0
 | skip{d:(List UInt8)}{ds g o g' o':List (List UInt8)}{k:Nat}:d∈g→Goes P ds g o g' o' k→Goes P (d::ds) g o g' o' (k+1)
 | go{d:(List UInt8)}{ds g o g1 o1 g' o':List (List UInt8)}{k1 k2:Nat}:d∉g→Goes P (P d) (g++[d]) o g1 o1 k1→Goes P ds g1 (o1++[d]) g' o' k2→Goes P (d::ds) g o g' o' (k1+k2+2)
section
variable{P:U8→List (List UInt8)}{ds g o g' o' U:List (List UInt8)}{k:Nat}
theorem Goes.ext (h:Goes P ds g o g' o' k):∃n t,g'=g++n∧o'=o++t∧t.Perm n:=by
 induction h with
 | nil g o=>exact⟨[],[],by simp,by simp,.refl _⟩
 | skip _ _ ih=>exact ih
 | @go d ds g o g1 o1 g' o' k1 k2 _ _ _ i1 i2=>
  obtain⟨n1,t1,rfl,rfl,p1⟩:=i1
  obtain⟨n2,t2,rfl,rfl,p2⟩:=i2
  refine⟨d::(n1++n2),t1++d::t2,by simp,by simp,?_⟩
  exact List.perm_middle.trans ((p1.append p2).cons d)
theorem Goes.keep (h:Goes P ds g o g' o' k):∀x∈g,x∈g':=fun x hx=>by
 have ob:=h.ext
 obtain⟨n,t,rfl,_⟩:=ob
 exact List.mem_append_left _ hx
theorem Goes.nodup (h:Goes P ds g o g' o' k):g.Nodup→g'.Nodup:=by
 induction h with
 | nil g o=>exact id
 | skip _ _ ih=>exact ih
 | @go d ds g o g1 o1 g' o' k1 k2 hd _ _ i1 i2=>
  refine fun hg=>i2 (i1 ?_)
  rw[List.nodup_append]
  refine⟨hg,List.nodup_cons.2 ⟨by simp,List.nodup_nil⟩,fun a ha b hb he=>?_⟩
  rw[List.mem_singleton] at hb
  exact hd (hb▸he▸ha)
theorem Goes.sub (hP:∀d∈U,∀x∈P d,x∈U) (h:Goes P ds g o g' o' k):(∀x∈ds,x∈U)→(∀x∈g,x∈U)→∀x∈g',x∈U:=by
 induction h with
 | nil g o=>exact fun _ hg=>hg
 | skip _ _ ih=>exact fun hd hg=>ih (fun x hx=>hd x (by simp[hx])) hg
 | @go d ds g o g1 o1 g' o' k1 k2 hd _ _ i1 i2=>
  intro hds hg
  have hdU:=hds d (by simp)
  refine i2 (fun x hx=>hds x (by simp[hx])) (i1 (hP d hdU) fun x hx=>?_)
  rcases List.mem_append.1 hx with hx | hx
  ·exact hg x hx
  ·rw[List.mem_singleton] at hx;exact hx▸hdU
def leftG (U g:List (List UInt8)):Nat:=(U.filter fun x=>decide (x∉g)).length
theorem leftG_mono{g1:List (List UInt8)} (h:∀x∈g,x∈g1):∀U,leftG U g1≤leftG U g
 | []=>Nat.le_refl _
 | x::U=>by
  have ih:=leftG_mono h U
  unfold leftG at ih⊢
  rw[List.filter_cons,List.filter_cons]
  by_cases h1:x∈g
  ·simpa[h1,h x h1] using ih
  ·by_cases h2:x∈g1
   ·simp[h1,h2];simp at ih;omega
   ·simp[h1,h2];simp at ih;omega
theorem leftG_lt{d:U8} (hd:d∉g):∀{U},d∈U→leftG U (g++[d])<leftG U g
 | [],h=>by cases h
 | x::U,h=>by
  have hm:=leftG_mono (g:=g) (g1:=g++[d]) (fun x hx=>by simp[hx]) U
  by_cases hx:x=d
  ·subst hx
   unfold leftG at hm⊢
   rw[List.filter_cons,List.filter_cons,if_neg (by simp),if_pos (by simp[hd]),List.length_cons]
   omega
  ·have ih:=leftG_lt hd (U:=U) (by
    rcases List.mem_cons.1 h with h | h
    ·exact absurd h.symm hx
    ·exact h)
   unfold leftG at ih⊢
   rw[List.filter_cons,List.filter_cons]
   by_cases h1:x∈g
   ·simpa[h1] using ih
   ·simp only[List.mem_append,List.mem_singleton,h1,hx,or_self,not_false_eq_true,decide_true,if_true,List.length_cons]
    simp only[List.mem_append,List.mem_singleton] at ih
    omega
theorem goes_all (hP:∀d∈U,∀x∈P d,x∈U):∀(n:Nat) (ds g o:List (List UInt8)),leftG U g≤n→(∀x∈ds,x∈U)→∃g' o' k,Goes P ds g o g' o' k
 | n,[],g,o,_,_=>⟨g,o,0,.nil g o⟩
 | n,d::ds,g,o,hn,hds=>by
  have hdU:=hds d (by simp)
  by_cases hd:d∈g
  ·have ob:=goes_all hP n ds g o hn fun x hx=>hds x (by simp[hx])
   obtain⟨g',o',k,h⟩:=ob
   exact⟨g',o',k+1,.skip hd h⟩
  ·have hlt:=leftG_lt hd hdU
   match n,hn with
   | 0,hn=>omega
   | n+1,hn=>
    have ob:=goes_all hP n (P d) (g++[d]) o (by omega) (hP d hdU)
    obtain⟨g1,o1,k1,h1⟩:=ob
    have hm:=leftG_mono h1.keep U
    have ob:=goes_all hP n ds g1 (o1++[d]) (by omega) fun x hx=>hds x (by simp[hx])
    obtain⟨g2,o2,k2,h2⟩:=ob
    exact⟨g2,o2,_,.go hd h1 h2⟩
termination_by n ds=>(n,ds.length)
theorem nodup_len:∀{g U:List (List UInt8)},g.Nodup→(∀x∈g,x∈U)→g.length≤U.length
 | [],_,_,_=>Nat.zero_le _
 | x::g,U,hn,hs=>by
  have h1:=nodup_len (g:=g) (U:=U.erase x) (List.nodup_cons.1 hn).2 fun y hy=>by
   have hne:y≠x:=fun h=>(List.nodup_cons.1 hn).1 (h▸hy)
   exact(List.mem_erase_of_ne hne).2 (hs y (by simp[hy]))
  have h2:=List.length_erase_of_mem (hs x (by simp))
  have h3:=List.length_pos_of_mem (hs x (by simp))
  rw[List.length_cons]
  omega
inductive Fin (P:(List UInt8)→List (List UInt8)) (gf of:List (List UInt8)):List ((List UInt8)×Nat)→List (List UInt8)→List (List UInt8)→Nat→Prop
 | nil:Fin P gf of [] gf of 0
 | cons{d:(List UInt8)}{n:Nat}{S:List ((List UInt8)×Nat)}{g o g1 o1:List (List UInt8)}{k K:Nat}:n≤(P d).length→Goes P ((P d).drop n) g o g1 o1 k→Fin P gf of S g1 (o1++[d]) K→Fin P gf of ((d,n)::S) g o (k+K+1)
theorem Fin.root{d:U8}{gf of:List (List UInt8)} (h:Goes P [d] [] [] gf of k):∃K,Fin P gf of [(d,0)] [d] [] K:=by
 cases h with
 | skip h _=>cases h
 | go _ h1 h2=>
  cases h2
  exact⟨_,.cons (Nat.zero_le _) h1 .nil⟩
theorem Fin.done{d:U8}{n K:Nat}{S:List (List UInt8×Nat)}{gf of:List (List UInt8)} (h:Fin P gf of ((d,n)::S) g o K) (hn:n=(P d).length):∃K',K'<K∧Fin P gf of S g (o++[d]) K':=by
 cases h with
 | @cons _ _ _ _ _ g1 o1 k K' _ h1 h2=>
  rw[hn,List.drop_length] at h1
  cases h1
  exact⟨_,by omega,h2⟩
theorem Fin.step{d x:U8}{n K:Nat}{S:List (List UInt8×Nat)}{gf of:List (List UInt8)} (h:Fin P gf of ((d,n)::S) g o K) (hx:(P d)[n]?=some x) :
  ∃K',K'<K∧if x∈g then Fin P gf of ((d,n+1)::S) g o K' else Fin P gf of ((x,0)::(d,n+1)::S) (g++[x]) o K':=by
 cases h with
 | @cons _ _ _ _ _ g1 o1 k K' hn h1 h2=>
  have ob:=List.getElem?_eq_some_iff.1 hx
  obtain⟨hlt,rfl⟩:=ob
  rw[List.drop_eq_getElem_cons hlt] at h1
  cases h1 with
  | @skip _ _ _ _ _ _ k hm h1=>exact⟨k+K'+1,by omega,by rw[if_pos hm];exact .cons hlt h1 h2⟩
  | @go _ _ _ _ g3 o3 _ _ k1 k2 hm h1 h3=>exact⟨k1+(k2+K'+1)+1,by omega,by rw[if_neg hm];exact .cons (Nat.zero_le _) h1 (.cons hlt h3 h2)⟩
theorem Fin.le{d:U8}{n K:Nat}{S:List (List UInt8×Nat)}{gf of:List (List UInt8)} (h:Fin P gf of ((d,n)::S) g o K):n≤(P d).length:=by
 cases h with
 | cons hn _ _=>exact hn
end
end Go.Gx
namespace Go.Gx
open Go.Proofs List
section
variable{ops:Array Oper}{n:Nat}{rest:List Oper}{f:Slots}{ds:List Deferred}{w w0:World}{S:List Nat}{L:OL}{Q:Post}{ty:TypeId}{pos:String}{af:Array Edge}{x y k:Operand}{T E:TypeId}
theorem WL.mapIns{M:List (List UInt8×Value×Nat)}{d:U8}{r clock:Nat}{v:Value} (ht:Tryz.prog.underlying T=some (.map 44 E)) (hx:ev f x=.map (some r)) (hk:ev f k=.agg (u8s d).toArray) (hy:ev f y=v)
  (hM:Keys32 M) (hd:d.length=32) (hs:Step S ((r,mapObj M clock)::L) w0 w) (h:∀w',Step S ((r,mapObj (putM d v clock M) (putC d clock M))::L) w0 w'→WL Tryz.prog ops Q n rest f ds w') :
  WL Tryz.prog ops Q n (⟨none,.insert T x k y,ty,pos,af,none⟩::rest) f ds w:=by
 refine WL.skip ?_ (h _ (hs.setO _))
 have h1:=run_putD (v:=v) ht hM hd hs.hd
 simp only[execOp,hx,hk,hy,Sem.run_bind,h1,Result.andThen_ok]
 rfl
end
structure SetD (M:DM) (g:List (List UInt8)):Prop where
 keys:Keys32 M
 val:∀d,valD d M=if d∈g then some (.agg #[]) else none
theorem SetD.nil:SetD [] []:=⟨(fun p hp=>by cases hp),fun d=>by rw[valD_nil];simp⟩
theorem SetD.look{M:DM}{g:List (List UInt8)} (h:SetD M g) (d:U8):((findD d M 0).map (·.2)).getD (.agg #[])=.agg #[]∧(findD d M 0).isSome=decide (d∈g):=by
 have h1:=h.val d
 constructor
 ·show(valD d M).getD _=_
  rw[h1];split <;> rfl
 ·rw[valD_isSome,h1];by_cases hd:d∈g <;> simp[hd]
theorem SetD.put{M:DM}{g:List (List UInt8)}{d:U8} (h:SetD M g) (hd:d.length=32) (c:Nat):SetD (putM d (.agg #[]) c M) (g++[d]):=⟨h.keys.put hd _ c,fun e=>by
 rw[valD_put]
 by_cases he:e=d
 ·subst he;simp
 ·rw[if_neg he,h.val]
  simp[he]⟩
def plC8 (x:(List UInt8)×Nat):List Value:=u8s x.1++[.int .i64 (x.2:Nat)]
theorem plC8_len{x:List UInt8×Nat} (h:x.1.length=32):(plC8 x).length=33:=by simp[plC8,u8s,h]
theorem plC8_c1 (x:List UInt8×Nat):Cells1 (plC8 x):=(Cells1.u8s _).append (Cells1.of_all rfl)
theorem bld_pl32 (a0 a1 a2 a3 a4 a5 a6 a7 a8 a9 a10 a11 a12 a13 a14 a15 a16 a17 a18 a19 a20 a21 a22 a23 a24 a25 a26 a27 a28 a29 a30 a31:UInt8) (z:Int) (w:World):(Instr.build 220 #[(0,.agg (u8s [a0,a1,a2,a3,a4,a5,a6,a7,a8,a9,a10,a11,a12,a13,a14,a15,a16,a17,a18,a19,a20,a21,a22,a23,a24,a25,a26,a27,a28,a29,a30,a31]).toArray),(1,.int .i64 z)]).run Tryz.prog w=.ok (.agg (u8s [a0,a1,a2,a3,a4,a5,a6,a7,a8,a9,a10,a11,a12,a13,a14,a15,a16,a17,a18,a19,a20,a21,a22,a23,a24,a25,a26,a27,a28,a29,a30,a31]++[Value.int .i64 z]).toArray) w:=by kernel_rfl
theorem bld_pl{d:U8} (hd:d.length=32) (n:Nat) (w:World):(Instr.build 220 #[(0,.agg (u8s d).toArray),(1,.int .i64 (n:Nat))]).run Tryz.prog w=.ok (.agg (plC8 (d,n)).toArray) w:=by
 have ob:=cells32 hd
 obtain⟨a0,a1,a2,a3,a4,a5,a6,a7,a8,a9,a10,a11,a12,a13,a14,a15,a16,a17,a18,a19,a20,a21,a22,a23,a24,a25,a26,a27,a28,a29,a30,a31,rfl⟩:=ob
 exact bld_pl32 a0 a1 a2 a3 a4 a5 a6 a7 a8 a9 a10 a11 a12 a13 a14 a15 a16 a17 a18 a19 a20 a21 a22 a23 a24 a25 a26 a27 a28 a29 a30 a31 n w
theorem bld_p032 (a0 a1 a2 a3 a4 a5 a6 a7 a8 a9 a10 a11 a12 a13 a14 a15 a16 a17 a18 a19 a20 a21 a22 a23 a24 a25 a26 a27 a28 a29 a30 a31:UInt8) (w:World):(Instr.build 220 #[(0,.agg (u8s [a0,a1,a2,a3,a4,a5,a6,a7,a8,a9,a10,a11,a12,a13,a14,a15,a16,a17,a18,a19,a20,a21,a22,a23,a24,a25,a26,a27,a28,a29,a30,a31]).toArray)]).run Tryz.prog w=.ok (.agg (u8s [a0,a1,a2,a3,a4,a5,a6,a7,a8,a9,a10,a11,a12,a13,a14,a15,a16,a17,a18,a19,a20,a21,a22,a23,a24,a25,a26,a27,a28,a29,a30,a31]++[Value.int .i64 0]).toArray) w:=by kernel_rfl
theorem bld_p0{d:U8} (hd:d.length=32) (w:World):(Instr.build 220 #[(0,.agg (u8s d).toArray)]).run Tryz.prog w=.ok (.agg (plC8 (d,0)).toArray) w:=by
 have ob:=cells32 hd
 obtain⟨a0,a1,a2,a3,a4,a5,a6,a7,a8,a9,a10,a11,a12,a13,a14,a15,a16,a17,a18,a19,a20,a21,a22,a23,a24,a25,a26,a27,a28,a29,a30,a31,rfl⟩:=ob
 exact bld_p032 a0 a1 a2 a3 a4 a5 a6 a7 a8 a9 a10 a11 a12 a13 a14 a15 a16 a17 a18 a19 a20 a21 a22 a23 a24 a25 a26 a27 a28 a29 a30 a31 w
theorem bld_none (w:World):(Instr.build 142 #[]).run Tryz.prog w=.ok (.agg #[]) w:=by kernel_rfl
theorem zNone (w:World):(zeroValue 142).run Tryz.prog w=.ok (.agg #[]) w:=by kernel_rfl
theorem zDigs (w:World):(zeroValue 35).run Tryz.prog w=.ok (.slice none 0 0) w:=by kernel_rfl
def partsM (s:AS) (m:List ((List UInt8)×Bool)) (d:(List UInt8)):List (List UInt8):=if (d,true)∈m then partsD s d else []
end Go.Gx
