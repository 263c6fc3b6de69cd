/- The document's Sweep: walked. A slice with room of its own: made, appended to in place. FlowSweeps, walked. An argument of numbers, opened. -/
import Derived.Test.YtplmnkogkfhaiaaGreatJ10
import Derived.Test.YtplmnkogkfhaiaaGreatJ1
set_option linter.unusedVariables false
set_option linter.unusedSimpArgs false
set_option maxRecDepth 100000
namespace Go.Gx
open Go.Proofs
attribute [local irreducible] shaL cutD frontL
theorem digsL_append (l m:List (List UInt8)):digsL (l++m)=digsL l++digsL m:=by simp[digsL]
theorem digsL_c1:∀l:List (List UInt8),Cells1 (digsL l)
 | []=>Cells1.of_all rfl
 | d::l=>(Cells1.u8s d).append (digsL_c1 l)
theorem Step.back{S:List Nat}{a:Nat×Obj}{A X:List (Nat×Obj)}{w w':World} (h:Step S (A++(a::X)) w w'):Step S (a::(A++X)) w w':=h.perm List.perm_middle
section
variable{br:Nat}{s:AS}{D R Lr:List (Nat×Obj)}{roots:List (List UInt8)}{v:Value}{w0:World}{rn rd rb:Int}{N:Nat}
set_option maxHeartbeats 16000000 in
theorem sweepDR_spec (hR:RRep br s D R) (ok:s.Ok) (hfew:s.Few N) (hN:N<900000000) (hv:OwnSl 44 32 v roots.length (digsL roots) Lr) (hLr:∀p∈Lr,p∈D) (h32:∀d∈roots,d.length=32) (hlen:roots.length<1099511627776) (hrm:(rmOf rn rd rb).Ok) (hw:Lives (R++D) w0) :
  Calls Tryz.prog 24 #[.pointer (some ⟨br,0,none⟩),v,.agg #[.int .i64 rn,.int .i64 rd,.int .i64 rb]] w0 fun e w'=>∃R' D',e=.returned (.tuple #[.int .i64 ((sweepR s (rmOf rn rd rb) roots).1:Nat),.int .i64 (sweepR s (rmOf rn rd rb) roots).2.1])∧
   RRep br (sweepR s (rmOf rn rd rb) roots).2.2 (D'++D) R'∧Step (R.map (·.1)) (R'++D') w0 w':=by
 have hs:Step (List.map (·.1) (R++D)) (R++D) w0 w0:=hw
 have hul:=used_len s.X
 have hou:=ok.used
 have ob:=hv.form
 obtain⟨va,vc,rfl⟩:=ob
 by_cases hlong:65536<roots.length
 ·have hre:sweepR s (rmOf rn rd rb) roots=(0,2,s):=if_pos hlong
  rw[hre]
  refine calls (n:=85) Tryz.func24 rfl rfl rfl ?_
  refine sr<|WL.box (cs:=[.int .i64 rn,.int .i64 rd,.int .i64 rb]) rfl rfl rfl hs (fun b5 w hs=>?_)
  refine wA<|wA<|wZ<|cq<|sr<|wm<|wV (run_lenSl u35 rfl)<|wV (run_bT (run_gtr rfl rfl) (by omega))<|wZ<|CW.cond rfl (fun h=>?_) (fun h=>?_)
  ·refine sr<|wA<|wA<|wZ<|CW.ret ?_
   refine fin_ret2 rfl ?_
   exact⟨R,[],rfl,hR,Step.fin (M:=[]) (D1:=[]) hw hs.tail⟩
  ·cases h
 have ob:∃G,sweepW s (rmOf rn rd rb) roots 0 []=G:=⟨_,rfl⟩
 obtain⟨G,hG⟩:=ob
 have hres:=sweepR_of hlong hG
 refine calls (n:=85) Tryz.func24 rfl rfl rfl ?_
 refine sr<|WL.box (cs:=[.int .i64 rn,.int .i64 rd,.int .i64 rb]) rfl rfl rfl hs (fun b5 w hs=>?_)
 refine wA<|wA<|wZ<|cq<|sr<|wm<|wV (run_lenSl u35 rfl)<|wV (run_bF (run_gtr rfl rfl) (by omega))<|wZ<|CW.cond rfl (fun h=>?_) (fun h=>?_)
 ·cases h
 refine ck<|sr<|wA<|wZ<|cq<|sr<|wA<|wZ<|cB<|CW.loop (fun z f w'=>∃(i g:Nat) (m:List (List UInt8)) (vm:Value) (Lm Rc Dc:List (Nat×Obj)),i≤roots.length∧z=roots.length - i∧g≤65537*i∧m.length≤65536*i∧(∀d∈m,d.length=32)∧sweepW s (rmOf rn rd rb) (roots.drop i) g m=G∧OwnSl 44 32 vm m.length (digsL m) Lm∧RRep br (s.gotN g) (Dc++D) Rc∧Step (List.map (·.1) (R++D)) ((b5,blk 30 [.int .i64 rn,.int .i64 rd,.int .i64 rb])::(Lm++(Rc++(Dc++D)))) w0 w'∧Holds f [(0,.pointer (some ⟨br,0,none⟩)),(1,.slice va roots.length vc),(5,.pointer (some ⟨b5,0,none⟩)),(8,vm),(9,.int .i64 (i:Nat))]) (m:=roots.length) ?_ ?_
 ·exact⟨0,0,[],_,[],R,[],Nat.zero_le _,rfl,Nat.zero_le _,Nat.zero_le _,(fun d hd=>by cases hd),hG,OwnSl.nil _ _,hR,hs,rfl,rfl,rfl,rfl,rfl,trivial⟩
 clear hs
 rintro z f w ⟨i,g,m,vm,Lm,Rc,Dc,hil,rfl,hgi,hml,hm32,hGi,hvm,hP,hs,hf⟩
 by_cases hlt:i<roots.length
 ·have ob:∃x,roots[i]?=some x:=⟨_,List.getElem?_eq_getElem hlt⟩
  obtain⟨x,hx⟩:=ob
  have hx32:=h32 x (List.mem_of_getElem? hx)
  have hxl:(u8s x).length=32:=by rw[u8s,List.length_map,hx32]
  have ob:=hv.some1 (by omega)
  obtain⟨bu,cu,more,hu1,hu2,hu3⟩:=ob
  rw[hu1] at hf
  have ob:=hf.chain
  obtain⟨gg,rfl⟩:=ob
  have hbD:(bu,blk 44 (digsL roots++more))∈D:=hLr _ (by rw[hu2];exact List.mem_singleton.2 rfl)
  have hxat:∀{w:World},w.heap[bu]?=some (blk 44 (digsL roots++more))→At w bu (0+i*32) (u8s x):=fun h=>digsL_at h32 (At.of_blk h).left hx
  have hdrop:roots.drop i=x::roots.drop (i+1):=by
   rw[List.drop_eq_getElem_cons hlt]
   rw[List.getElem?_eq_getElem hlt] at hx
   rw[Option.some.inj hx]
  rw[hdrop,sweepW] at hGi
  have hwk:=fun{w1:World} h=>reachR_spec (w0:=w1) hP (ok.gotN g) (hfew.gotN g) (by omega) hx32 hrm h
  simp only[runs_gotN] at hwk
  have hrg:=runs_g (s:=s) hrm x
  have ob:=runs_wkd (s:=s) hx32 hrm
  obtain⟨_,_,_,Wk,_⟩:=ob
  have ob:∃r,runs s (rmOf rn rd rb) [rootS x] ws0=r:=⟨_,rfl⟩
  obtain⟨r,hr⟩:=ob
  rw[hr] at hGi hrg Wk
  simp only[hr] at hwk
  refine cq<|sr<|wm<|wm<|wV (run_lenSl u35 rfl)<|wV (run_bT (run_lss rfl rfl) (by omega))<|wZ<|CW.cond rfl (fun h=>?_) (fun h=>?_)
  ·refine ck<|cq<|cB<|cq<|CW.any (A:=fun w=>w.heap[b5]?=some (blk 30 [.int .i64 rn,.int .i64 rd,.int .i64 rb])∧w.heap[bu]?=some (blk 44 (digsL roots++more))) (C:=fun w=>w.heap[b5]?=some (blk 30 [.int .i64 rn,.int .i64 rd,.int .i64 rb])∧w.heap[bu]?=some (blk 44 (digsL roots++more))) 1000000 12 mixedP rfl ?_
   replace hs:=hs.drew
   refine aM 0 rfl<|aM 1 rfl<|aM 2 rfl<|aV 3 rfl (fun w hs=>run_ixSlN u35 ty44 rfl rfl (by omega))<|aV 4 rfl (fun w hs=>run_loadN ty44 rfl hxl (hxat hs.2))<|aV 5 rfl (fun w hs=>run_loadN ty30 rfl rfl (At.of_blk hs.1))<|AL.one 6 (by kernel_rfl) rfl (⟨hs.has (b5,blk 30 [.int .i64 rn,.int .i64 rd,.int .i64 rb]) (by simp),hs.has (bu,blk 44 (digsL roots++more)) (by simp[hbD])⟩) (⟨hs.has (b5,blk 30 [.int .i64 rn,.int .i64 rd,.int .i64 rb]) (by simp),hs.has (bu,blk 44 (digsL roots++more)) (by simp[hbD])⟩) ?_
   refine wE rfl (run_call en19 rfl rfl) (hwk (Lives.mk (Step.dropL (L1:=Lm) hs.tail))) ?_
   rintro e w ⟨v1,Lv,R1,D1,rfl,hP1,hv1,hq⟩
   refine⟨_,rfl,?_⟩
   replace hs:=Own.put (A:=_::Lm) (L:=Rc) hs hq
   refine wZ<|⟨rfl,?_⟩
   refine aM 7 rfl<|aV 8 rfl (fun w hs=>run_extract rfl rfl)<|aV 9 rfl (fun w hs=>run_extract rfl rfl)<|aV 10 rfl (fun w hs=>run_assign)<|aV 11 rfl (fun w hs=>run_assign)<|AL.end (by kernel_rfl) (⟨hs.has (b5,blk 30 [.int .i64 rn,.int .i64 rd,.int .i64 rb]) (by simp),hs.has (bu,blk 44 (digsL roots++more)) (by simp[hbD])⟩) (⟨hs.has (b5,blk 30 [.int .i64 rn,.int .i64 rd,.int .i64 rb]) (by simp),hs.has (bu,blk 44 (digsL roots++more)) (by simp[hbD])⟩) ?_
   have hP2:RRep br (s.gotN (g+r.2.g)) (((Lv++D1)++Dc)++D) R1:=by
    rw[gotN_add] at hP1
    exact hP1.mono fun p hp=>by
     simp only[List.mem_append] at hp⊢
     rcases hp with hp | hp | hp <;> simp[hp]
   by_cases he:r.1≠0
   ·rw[if_pos he] at hGi
    rw[←hGi] at hres
    simp only at hres
    rw[if_pos he] at hres
    rw[hres]
    refine cq<|sr<|wm<|wV (run_bT (run_neq rfl rfl) (by exact he))<|wZ<|CW.cond rfl (fun h=>?_) (fun h=>?_)
    ·refine sr<|wm<|wA<|wA<|wZ<|CW.ret ?_
     refine fin_ret2 rfl ?_
     exact⟨R1,(Lv++D1)++Dc,rfl,hP2,Step.fin (M:=[]) (D1:=(Lv++D1)++Dc) hw (by show Step _ (R1++(((Lv++D1)++Dc)++D)) _ _;rw[List.append_assoc (Lv++D1)];exact Step.dropL (L1:=Lm) hs.tail)⟩
    ·cases h
   have he0:r.1=0:=by simpa using he
   rw[if_neg he] at hGi
   have hrl:reachL r=ordM r.2.m:=if_pos he0
   rw[hrl] at hv1
   have hol:(ordM r.2.m).length≤65536:=Nat.le_trans (ordM_len _) (Wk.len he0)
   have hsl:Sl w 32 v1 (ordM r.2.m).length (digsL (ordM r.2.m)):=hv1.slH fun p hp=>hs.has p (by simp[hp])
   refine cq<|sr<|wm<|wV (run_bF (run_neq rfl rfl) (by exact he))<|wZ<|CW.cond rfl (fun h=>?_) (fun h=>?_)
   ·cases h
   replace hs:=Step.pIn hs
   refine ck<|cr<|wm<|wm<|WL.append u35 u35 ty44 rfl (by decide) rfl rfl (hvm) (hs) (hsl) ((digsL_c1 _)) (by omega) rfl (fun v39 Lv39 w hv39 hs=>?_)
   refine wA<|wZ ?_
   replace hs:=Step.back hs
   refine cr<|wm<|wV (run_add (c:=((i+1:Nat):Int)) rfl rfl (by omega) (by omega))<|wA<|wZ<|(show _∧_ from⟨rfl,_,?_,i+1,g+r.2.g,m++ordM r.2.m,v39,Lv39,R1,(Lv++D1)++Dc,hlt,rfl,?_,?_,?_,hGi,?_,hP2,?_,rfl,hu1.symm,rfl,rfl,rfl,trivial⟩)
   ·omega
   ·omega
   ·rw[List.length_append];omega
   ·intro d hd
    rcases List.mem_append.1 hd with hd | hd
    ·exact hm32 d hd
    ·exact(Wk.met he0).len d hd
   ·rw[List.length_append,digsL_append];exact hv39
   ·rw[List.append_assoc (Lv++D1)];exact hs
  ·cases h
 ·have ob:=hf.chain
  obtain⟨gg,rfl⟩:=ob
  obtain rfl:i=roots.length:=by omega
  rw[List.drop_length] at hGi
  obtain rfl:(0,g,m)=G:=hGi
  rw[hres]
  simp only[ne_eq,not_true_eq_false,if_false]
  refine cq<|sr<|wm<|wm<|wV (run_lenSl u35 rfl)<|wV (run_bF (run_lss rfl rfl) (by omega))<|wZ<|CW.cond rfl (fun h=>?_) (fun h=>?_)
  ·cases h
  replace hs:=hs.tail
  have okg:=ok.gotN g
  have ob:=hP.look okg.len
  obtain⟨ra,rc,_,hlk⟩:=ob
  refine CW.exit<|sr<|wA<|wZ<|cq<|sr<|wA<|wZ<|cB<|CW.loop (fun z f w'=>∃(k:Nat) (vo:Value) (Lo:List (Nat×Obj)),k≤s.X.length∧z=s.X.length - k∧OwnSl 44 32 vo (goneL m ((s.X.take k).map (·.d))).length (digsL (goneL m ((s.X.take k).map (·.d)))) Lo∧Step (List.map (·.1) (R++D)) (Lo++(Lm++(Rc++(Dc++D)))) w0 w'∧Holds f [(0,.pointer (some ⟨br,0,none⟩)),(8,vm),(12,vo),(13,.int .i64 (k:Nat))]) (m:=s.X.length) ?_ ?_
  ·exact⟨0,_,[],Nat.zero_le _,rfl,OwnSl.nil _ _,hs,rfl,rfl,rfl,rfl,trivial⟩
  clear hs
  rintro z f w ⟨k,vo,Lo,hk,rfl,hvo,hs,hf⟩
  have ob:=hf.chain
  obtain⟨gg,rfl⟩:=ob
  have hgl:=goneL_len m ((s.X.take k).map (·.d))
  rw[List.length_map,List.length_take] at hgl
  have hcell:∀{w:World},(∀p∈Rc,w.heap[p.1]?=some p.2)→w.cell? ⟨br,3,none⟩=some (.slice ra s.X.length rc):=fun h=>(hlk h).1.cell (j:=3) rfl
  by_cases hlt:k<s.X.length
  ·have ob:∃b,s.X[k]?=some b:=⟨_,List.getElem?_eq_getElem hlt⟩
   obtain⟨b,hb⟩:=ob
   have hd32:=ok.len b (List.mem_of_getElem? hb)
   have hdl:(u8s b.d).length=32:=by rw[u8s,List.length_map,hd32]
   have htk:=take_d hb
   have ob:=(hlk fun p hp=>hs.has p (by simp[hp])).2 k b hb
   obtain⟨bx,hra,_⟩:=ob
   have hcell2:∀{w:World},(∀p∈Rc,w.heap[p.1]?=some p.2)→w.cell? ⟨br,3,none⟩=some (.slice (some ⟨bx,0,none⟩) s.X.length rc):=fun h=>by rw[←hra];exact hcell h
   have hbat:∀{w:World},(∀p∈Rc,w.heap[p.1]?=some p.2)→At w bx (0+k*34) (u8s b.d):=fun h=>by
    have ob:=(hlk h).2 k b hb
    obtain⟨bx',hra',h2⟩:=ob
    rw[hra] at hra'
    cases hra'
    exact h2
   have hhas:=fun{w1:World} (h:∀p∈Lm,w1.heap[p.1]?=some p.2)=>hasR_spec (w0:=w1) (Dgs.own hvm h hm32 (by omega)) hd32
   by_cases hin:b.d∈m
   ·have hnext:goneL m ((s.X.take (k+1)).map (·.d))=goneL m ((s.X.take k).map (·.d)):=by rw[htk,goneL_in hin]
    rw[decide_eq_true hin] at hhas
    refine cq<|sr<|wm<|wm<|wn rfl<|wF 3 u54 rfl ty52 rfl<|wl ty52 rfl (hcell (fun p hp=>hs.has p (by simp[hp])))<|wV (run_lenSl u52 rfl)<|wV (run_bT (run_lss rfl rfl) (by omega))<|wZ<|CW.cond rfl (fun h=>?_) (fun h=>?_)
    ·refine ck<|cq<|cB<|sr<|wm<|wm<|wn rfl<|wF 3 u54 rfl ty52 rfl<|wl ty52 rfl (hcell2 (fun p hp=>hs.has p (by simp[hp])))<|wm<|wV (run_ixSlN u52 ty80 rfl rfl (by omega))<|wF 0 u80 rfl ty44 rfl<|wV (run_loadN ty44 rfl hdl (hbat fun p hp=>hs.has p (by simp[hp]))) ?_
     refine wE rfl (run_call en66 rfl rfl) (hhas (fun p hp=>hs.has p (by simp[hp]))) ?_
     rintro e w ⟨rfl,hq⟩
     refine⟨_,rfl,?_⟩
     replace hs:=hs.callE hq
     refine wV (run_not rfl)<|wZ<|CW.cond rfl (fun h=>?_) (fun h=>?_)
     ·cases h
     refine ck<|cr<|wm<|wV (run_add (c:=((k+1:Nat):Int)) rfl rfl (by omega) (by omega))<|wA<|wZ<|(show _∧_ from⟨rfl,_,?_,k+1,vo,Lo,hlt,rfl,?_,hs,rfl,rfl,rfl,rfl,trivial⟩)
     ·omega
     ·rw[hnext];exact hvo
    ·cases h
   ·have hnext:goneL m ((s.X.take (k+1)).map (·.d))=goneL m ((s.X.take k).map (·.d))++[b.d]:=by rw[htk,goneL_out hin]
    rw[decide_eq_false hin] at hhas
    refine cq<|sr<|wm<|wm<|wn rfl<|wF 3 u54 rfl ty52 rfl<|wl ty52 rfl (hcell (fun p hp=>hs.has p (by simp[hp])))<|wV (run_lenSl u52 rfl)<|wV (run_bT (run_lss rfl rfl) (by omega))<|wZ<|CW.cond rfl (fun h=>?_) (fun h=>?_)
    ·refine ck<|cq<|cB<|sr<|wm<|wm<|wn rfl<|wF 3 u54 rfl ty52 rfl<|wl ty52 rfl (hcell2 (fun p hp=>hs.has p (by simp[hp])))<|wm<|wV (run_ixSlN u52 ty80 rfl rfl (by omega))<|wF 0 u80 rfl ty44 rfl<|wV (run_loadN ty44 rfl hdl (hbat fun p hp=>hs.has p (by simp[hp]))) ?_
     refine wE rfl (run_call en66 rfl rfl) (hhas (fun p hp=>hs.has p (by simp[hp]))) ?_
     rintro e w ⟨rfl,hq⟩
     refine⟨_,rfl,?_⟩
     replace hs:=hs.callE hq
     refine wV (run_not rfl)<|wZ<|CW.cond rfl (fun h=>?_) (fun h=>?_)
     ·skip
      refine cr<|wm<|wm<|wn rfl<|wF 3 u54 rfl ty52 rfl<|wl ty52 rfl (hcell2 (fun p hp=>hs.has p (by simp[hp])))<|wm<|wV (run_ixSlN u52 ty80 rfl rfl (by omega))<|wF 0 u80 rfl ty44 rfl<|wV (run_loadN ty44 rfl hdl (hbat fun p hp=>hs.has p (by simp[hp])))<|WL.buildSlice (cs:=u8s b.d) u35 ty44 rfl (by decide) rfl (filled1 hdl rfl) rfl hs (fun b69 w hs=>?_)
      have hsl69:Sl w 32 (.slice (some ⟨b69,0,none⟩) 1 1) 1 (u8s b.d):=.own1 hs (by rw[hdl])
      replace hs:=Step.pIn hs
      refine WL.append u35 u35 ty44 rfl (by decide) rfl rfl (hvo) (hs) (hsl69) (Cells1.u8s _) (by omega) rfl (fun v70 Lv70 w hv70 hs=>?_)
      replace hs:=Step.pOut hs
      refine wA<|wZ<|cr<|wm<|wV (run_add (c:=((k+1:Nat):Int)) rfl rfl (by omega) (by omega))<|wA<|wZ<|(show _∧_ from⟨rfl,_,?_,k+1,v70,Lv70,hlt,rfl,?_,hs,rfl,rfl,rfl,rfl,trivial⟩)
      ·omega
      ·rw[hnext,List.length_append,digsL_snoc];exact hv70
     ·cases h
    ·cases h
  ·obtain rfl:k=s.X.length:=by omega
   rw[List.take_length] at hvo hgl
   have ob:∃T,goneL m (s.X.map (·.d))=T:=⟨_,rfl⟩
   obtain⟨T,hT⟩:=ob
   rw[hT] at hvo hgl⊢
   have hT32:∀d∈T,d.length=32:=fun d hd=>by
    rw[←hT] at hd
    have ob:=List.mem_map.1 (List.mem_filter.1 hd).1
    obtain⟨b,hb,rfl⟩:=ob
    exact ok.len b hb
   have ob:=hvo.form
   obtain⟨oa,oc,rfl⟩:=ob
   refine cq<|sr<|wm<|wm<|wn rfl<|wF 3 u54 rfl ty52 rfl<|wl ty52 rfl (hcell (fun p hp=>hs.has p (by simp[hp])))<|wV (run_lenSl u52 rfl)<|wV (run_bF (run_lss rfl rfl) (by omega))<|wZ<|CW.cond rfl (fun h=>?_) (fun h=>?_)
   ·cases h
   refine CW.exit<|cq<|sr<|wA<|wZ<|cB<|CW.loop (fun z f w'=>∃(j:Nat) (Rj:List (Nat×Obj)),j≤T.length∧z=T.length - j∧RRep br (evAll (s.gotN g) (T.take j)) (Dc++D) Rj∧Step (List.map (·.1) (R++D)) (Lo++(Lm++(Rj++(Dc++D)))) w0 w'∧Holds f [(0,.pointer (some ⟨br,0,none⟩)),(12,.slice oa T.length oc),(14,.int .i64 (j:Nat))]) (m:=T.length) ?_ ?_
   ·exact⟨0,Rc,Nat.zero_le _,rfl,hP,hs,rfl,rfl,rfl,trivial⟩
   clear hs
   rintro z f w ⟨j,Rj,hj,rfl,hPj,hs,hf⟩
   by_cases hlt2:j<T.length
   ·have ob:∃y,T[j]?=some y:=⟨_,List.getElem?_eq_getElem hlt2⟩
    obtain⟨y,hy⟩:=ob
    have hy32:=hT32 y (List.mem_of_getElem? hy)
    have hyl:(u8s y).length=32:=by rw[u8s,List.length_map,hy32]
    have ob:=hvo.some1 (by omega)
    obtain⟨bo,co,moreo,ho1,ho2,ho3⟩:=ob
    rw[ho1] at hf
    have ob:=hf.chain
    obtain⟨g3,rfl⟩:=ob
    have hyat:At w bo (0+j*32) (u8s y):=digsL_at hT32 (At.of_blk (hs.has (bo,blk 44 (digsL T++moreo)) (List.mem_append_left _ (by rw[ho2];exact List.mem_singleton.2 rfl)))).left hy
    have htk2:T.take (j+1)=T.take j++[y]:=by rw[List.take_add_one,hy];rfl
    have hevo:=evAll_ok (l:=T.take j) okg
    refine cq<|sr<|wm<|wm<|wV (run_lenSl u35 rfl)<|wV (run_bT (run_lss rfl rfl) (by omega))<|wZ<|CW.cond rfl (fun h=>?_) (fun h=>?_)
    ·refine ck<|cq<|cB<|cr<|wm<|wm<|wm<|wV (run_ixSlN u35 ty44 rfl rfl (by omega))<|wV (run_loadN ty44 rfl hyl hyat)<|wE rfl (run_call en63 rfl rfl) (revict_abs hPj hevo (Lives.mk (Step.dropL (L1:=Lm) (Step.dropL (L1:=Lo) hs))) hy32) ?_
     rintro e w ⟨R2,rfl,hP2,hq⟩
     refine⟨_,rfl,?_⟩
     replace hs:=Two.set (A:=Lo++Lm) (L:=Rj) (R:=Dc) (by rw[List.append_assoc];exact hs) hq
     rw[List.append_assoc] at hs
     refine wZ<|cr<|wm<|wV (run_add (c:=((j+1:Nat):Int)) rfl rfl (by omega) (by omega))<|wA<|wZ<|(show _∧_ from⟨rfl,_,?_,j+1,R2,hlt2,rfl,?_,hs,rfl,ho1.symm,rfl,trivial⟩)
     ·omega
     ·rw[htk2,evAll_snoc];exact hP2
    ·cases h
   ·have ob:=hf.chain
    obtain⟨g3,rfl⟩:=ob
    obtain rfl:j=T.length:=by omega
    rw[List.take_length] at hPj
    refine cq<|sr<|wm<|wm<|wV (run_lenSl u35 rfl)<|wV (run_bF (run_lss rfl rfl) (by omega))<|wZ<|CW.cond rfl (fun h=>?_) (fun h=>?_)
    ·cases h
    refine CW.exit<|sr<|wm<|wV (run_lenSl u35 rfl)<|wA<|wA<|wZ<|CW.ret ?_
    refine fin_ret2 rfl ?_
    exact⟨Rj,Dc,rfl,hPj,Step.fin (M:=[]) hw (Step.dropL (L1:=Lm) (Step.dropL (L1:=Lo) hs))⟩
end
end Go.Gx
namespace Go.Gx
open Go.Proofs
section
variable{P:Program}{ops:Array Oper}{n:Nat}{rest:List Oper}{f:Slots}{ds:List Deferred}{w w0:World}{S:List Nat}{L:List (Nat×Obj)}{Q:Post}{d:Nat}{ty:TypeId}{pos:String}{af:Array Edge}{x y:Operand}{T:TypeId}
theorem WL.makeSliceC{agg:Bool}{sz bytes k c:Nat}{zs:List Value}{E:TypeId} (ht:P.underlying T=some (.slice E)) (hE:Ty P E agg sz bytes zs) (hz:zs.length=sz) (hkc:k≤c) (hb:bytes*c≤281474976710656) (hb0:0<bytes) (h0:¬c*sz=0)
  (hx:ev f x=.int .i64 k) (hy:ev f y=.int .i64 c) (hd:Nat.blt d n=true) (hs:Step S L w0 w)
  (h:∀b w',Step S ((b,blk E (List.replicate c zs).flatten)::L) w0 w'→WL P ops Q n rest (upd f d (.slice (some ⟨b,0,none⟩) k c)) ds w'):WL P ops Q n (⟨some d,.makeSlice T x y,ty,pos,af,none⟩::rest) f ds w:=by
 refine WL.val hd (v:=.slice (some ⟨w.heap.size,0,none⟩) k c) (w':=w.alloc (blk E (List.replicate c zs).flatten)) ?_ (h _ _ (hs.alloc _))
 have ob:=hE.info
 obtain⟨i,z0,hi,hsz,hby,hz0,hc0,_⟩:=ob
 have hk:c≤281474976710656:=Nat.le_trans (by have:=Nat.mul_le_mul_right c hb0;omega) hb
 have hw:IntKind.i64.wrap (c:Int)=c:=wrap_i64 (by omega)
 have hw2:IntKind.i64.wrap (k:Int)=k:=wrap_i64 (by omega)
 have hti:(typeInfo E).run P w=.ok i w:=by simp[typeInfo,hi]
 have ob:=run_zero hE w
 obtain⟨z,hzr,hc⟩:=ob
 have hnl:((decide ((c:Int)<0) || decide ((i.bytes:Int)*(c:Int) > 2 ^ 48)) || decide ((k:Int)<0) || decide ((k:Int) > (c:Int)))=false:=by
  have h1:¬((c:Int)<0):=by omega
  have h2:¬((i.bytes:Int)*(c:Int) > 2 ^ 48):=by
   rw[hby]
   have:((bytes*c:Nat):Int)≤((281474976710656:Nat):Int):=Int.ofNat_le.2 hb
   rw[Int.natCast_mul] at this
   have e48:(2:Int) ^ 48=281474976710656:=by decide
   rw[e48]
   omega
  have h3:¬((k:Int)<0):=by omega
  have h4:¬((k:Int) > (c:Int)):=by omega
  rw[decide_eq_false h1,decide_eq_false h2,decide_eq_false h3,decide_eq_false h4]
  rfl
 simp only[execOp,hx,hy,Instr.makeSlice,Sem.run_bind,run_underlying ht,Result.andThen_ok,asInt,asIntOf,Sem.run_pure,hti,hw,hw2]
 rw[if_neg (by rw[hnl];simp)]
 have hrow:=zero_row zs c
 rw[hz] at hrow
 simp only[Sem.run_bind,run_askRoom,Result.andThen_ok,run_sizeOf hE,Int.toNat_natCast,if_neg h0,hzr,hc,Sem.run_pure,hrow,newRow,run_newObj,blk]
 rfl
end
theorem digsL_len{l:List (List UInt8)} (h:∀d∈l,d.length=32):(digsL l).length=l.length*32:=by
 induction l with
 | nil=>rfl
 | cons d l ih=>
  have h1:(digsL (d::l))=u8s d++digsL l:=rfl
  rw[h1,List.length_append,ih fun e he=>h e (by simp[he]),u8s,List.length_map,h d (by simp),List.length_cons]
  omega
theorem digsL_zero (c:Nat):(List.replicate c (u8s zD)).flatten=digsL (List.replicate c zD):=by
 induction c with
 | zero=>rfl
 | succ c ih=>rw[List.replicate_succ,List.flatten_cons,ih,List.replicate_succ];rfl
theorem zD_32 (c:Nat):∀d∈List.replicate c zD,d.length=32:=fun d hd=>by rw[(List.mem_replicate.1 hd).2];rfl
theorem sweepR_ok{s:AS} (ok:s.Ok){rm:Rm}{roots:List (List UInt8)}:(sweepR s rm roots).2.2.Ok:=by
 unfold sweepR
 split
 ·exact ok
 ·split
  ·exact ok.gotN _
  ·exact evAll_ok (ok.gotN _)
end Go.Gx
namespace Go.Gx
open Go.Proofs Go.RowKit
attribute [local irreducible] shaL cutD frontL
def nums (l:List Int):List Value:=l.map fun z=>.int .i64 z
structure Nums (w:World) (v:Value) (l:List Int):Prop where
 sl:Sl w 1 v l.length (nums l)
 rng:∀z∈l,-9223372036854775808≤z∧z≤9223372036854775807
 len:l.length≤9223372036854775807
section
variable{α:Type}{a b c e f:α}{A B C D:List α}
theorem perm_s1:((e::(A++(B++(C++D))))++[a,b]).Perm (a::e::b::(A++(B++(C++D)))):=by
 classical exact List.perm_iff_count.2 fun x=>by simp only[List.count_append,List.count_cons,List.count_nil];omega
theorem perm_s2{E:List α}:(B++(f::a::e::b::(A++(C++(E++D))))).Perm ((a::e::b::A)++(C++(E++(f::(B++D))))):=by
 classical exact List.perm_iff_count.2 fun x=>by simp only[List.count_append,List.count_cons];omega
end
theorem Step.sw5{S:List Nat}{a b:Nat×Obj}{X:List (Nat×Obj)}{w w':World} (h:Step S (b::a::X) w w'):Step S (b::X) w w':=Step.tail (p:=a) (h.perm (List.Perm.swap _ _ _))
section
variable{wd rn rd rb:Int}{x:Stup}{v:Value}{l:List Int}
set_option maxHeartbeats 16000000 in
theorem flowSweeps_spec (w0:World) (hx:x.Ok w0) (hl:Nums w0 v l) (hn : -9223372036854775808≤rn∧rn≤9223372036854775807) (hd : -9223372036854775808≤rd∧rd≤9223372036854775807) (hb : -9223372036854775808≤rb∧rb≤9223372036854775807) :
  Calls Tryz.prog 4 #[.int .i64 wd,.agg x.cells.toArray,v,.agg #[.int .i64 rn,.int .i64 rd,.int .i64 rb]] w0 (Ret0 (.bool true) w0):=by
 have hs:Step [] [] w0 w0:=Step.refl w0
 have hcl:x.cells.length=6:=rfl
 have hrm:=rmOf_ok hn hd hb
 have hlen:=hl.len
 have ob:=hl.sl.form
 obtain⟨va,vc,rfl⟩:=ob
 by_cases hbig:1048576<l.length
 ·refine calls (n:=123) Tryz.func4 rfl rfl rfl ?_
  refine sr<|WL.box (cs:=x.cells) rfl rfl rfl hs (fun b5 w hs=>?_)
  refine WL.box (cs:=[.int .i64 rn,.int .i64 rd,.int .i64 rb]) rfl rfl rfl hs (fun b7 w hs=>?_)
  refine wA<|wZ<|cq<|sr<|wE rfl (run_call en15 rfl rfl) (known8_spec _) ?_
  rintro e w ⟨rfl,hq⟩
  refine⟨_,rfl,?_⟩
  replace hs:=hs.callE hq
  refine wV (run_not rfl)<|wZ<|CW.cond rfl (fun h=>?_) (fun h=>?_)
  ·cases h
  refine ck<|cq<|sr<|wm<|wV (run_lenSl u25 rfl)<|wV (run_bT (run_gtr rfl rfl) (by omega))<|wZ<|CW.cond rfl (fun h=>?_) (fun h=>?_)
  ·refine sr<|wA<|wZ<|CW.ret ?_
   refine fin_ret1 rfl ?_
   exact⟨rfl,hs.clear⟩
  ·cases h
 by_cases hbad:(wd<1∨32<wd)∨¬(0≤x.cap∧x.cap≤67108864)
 ·refine calls (n:=123) Tryz.func4 rfl rfl rfl ?_
  refine sr<|WL.box (cs:=x.cells) rfl rfl rfl hs (fun b5 w hs=>?_)
  refine WL.box (cs:=[.int .i64 rn,.int .i64 rd,.int .i64 rb]) rfl rfl rfl hs (fun b7 w hs=>?_)
  refine wA<|wZ<|cq<|sr<|wE rfl (run_call en15 rfl rfl) (known8_spec _) ?_
  rintro e w ⟨rfl,hq⟩
  refine⟨_,rfl,?_⟩
  replace hs:=hs.callE hq
  refine wV (run_not rfl)<|wZ<|CW.cond rfl (fun h=>?_) (fun h=>?_)
  ·cases h
  refine ck<|cq<|sr<|wm<|wV (run_lenSl u25 rfl)<|wV (run_bF (run_gtr rfl rfl) (by omega))<|wZ<|CW.cond rfl (fun h=>?_) (fun h=>?_)
  ·cases h
  refine ck<|sr<|wm<|wV (run_loadN ty28 rfl hcl hs.a1)<|wE rfl (run_call en16 rfl rfl) (made8_bad hbad rfl _) ?_
  rintro e w ⟨rfl,hq⟩
  refine⟨_,rfl,?_⟩
  replace hs:=hs.callE hq
  refine wm<|wx rfl rfl<|wx rfl rfl<|wA<|wA<|wZ<|cq<|sr<|wm<|wV (run_not rfl)<|wm<|wy<|wm ?_
  refine wy<|wV (run_nilNil u32 rfl rfl)<|wV (run_pickF rfl)<|wZ<|CW.cond rfl (fun h=>?_) (fun h=>?_)
  ·refine sr<|wm<|wA<|wZ<|CW.ret ?_
   refine fin_ret1 rfl ?_
   exact⟨rfl,hs.clear⟩
  ·cases h
 have ob:∃k:Nat,wd=k:=⟨wd.toNat,by omega⟩
 obtain⟨k,rfl⟩:=ob
 have ob:∃c:Nat,x.cap=c:=⟨x.cap.toNat,by omega⟩
 obtain⟨c,hc⟩:=ob
 refine calls (n:=123) Tryz.func4 rfl rfl rfl ?_
 refine sr<|WL.box (cs:=x.cells) rfl rfl rfl hs (fun b5 w hs=>?_)
 refine WL.box (cs:=[.int .i64 rn,.int .i64 rd,.int .i64 rb]) rfl rfl rfl hs (fun b7 w hs=>?_)
 refine wA<|wZ<|cq<|sr<|wE rfl (run_call en15 rfl rfl) (known8_spec _) ?_
 rintro e w ⟨rfl,hq⟩
 refine⟨_,rfl,?_⟩
 replace hs:=hs.callE hq
 refine wV (run_not rfl)<|wZ<|CW.cond rfl (fun h=>?_) (fun h=>?_)
 ·cases h
 refine ck<|cq<|sr<|wm<|wV (run_lenSl u25 rfl)<|wV (run_bF (run_gtr rfl rfl) (by omega))<|wZ<|CW.cond rfl (fun h=>?_) (fun h=>?_)
 ·cases h
 refine ck<|sr<|wm<|wV (run_loadN ty28 rfl hcl hs.a1)<|wE rfl (run_call en16 rfl rfl) (made8_spec (by omega) (by omega) (by omega) hc _ (hx.step0 hs.clear)) ?_
 rintro e w ⟨bw,bp,br,rfl,s,roots,vR,LR,L,R,D,hM,few,hsk,hrl⟩
 refine⟨_,rfl,?_⟩
 have hs2:=Step.call0 hs hM.hs
 replace hs:=Step.perm hs2 perm_s1
 refine wm<|wx rfl rfl<|wx rfl rfl<|wA<|wA<|wZ ?_
 have ok:=hM.ok
 refine cq<|sr<|wm<|wV (run_not rfl)<|wm<|wy<|wm<|wy<|wV (run_ptrNil u32 rfl rfl)<|wV (run_pickF rfl)<|wZ<|CW.cond rfl (fun h=>?_) (fun h=>?_)
 ·cases h
 have ob:∃ds,l.map (fun z=>rootF roots s.X z)=ds:=⟨_,rfl⟩
 obtain⟨ds,hds⟩:=ob
 have hdl:ds.length=l.length:=by rw[←hds,List.length_map]
 have hd32:∀d∈ds,d.length=32:=fun d h=>by
  rw[←hds] at h
  have ob:=List.mem_map.1 h
  obtain⟨z,_,rfl⟩:=ob
  exact rootF_len hM.r32 ok.len z
 refine ck<|sr<|wm<|wV (run_lenSl u25 rfl)<|wV (run_add (c:=((l.length+3:Nat):Int)) rfl rfl (by omega) (by omega))<|WL.makeSliceC (k:=0) (c:=(l.length+3)) u35 ty44 rfl (by omega) (by omega) (by decide) (by omega) rfl rfl rfl hs (fun b41 w hs=>?_)
 refine wA<|wZ ?_
 replace hs:=(show Step [] ((b41,blk 44 ((List.replicate (l.length+3) (u8s zD)).flatten))::(b7,blk 30 [.int .i64 rn,.int .i64 rd,.int .i64 rb])::(bw,blk 42 (w8C bp br vR))::(b5,blk 28 x.cells)::(LR++(L++(R++D)))) w0 w from hs)
 rw[digsL_zero] at hs
 have hroot:∀{w:World}{A:List (Nat×Obj)}{z:Int},-9223372036854775808≤z∧z≤9223372036854775807→Step [] (A++((b7,blk 30 [.int .i64 rn,.int .i64 rd,.int .i64 rb])::(bw,blk 42 (w8C bp br vR))::(b5,blk 28 x.cells)::(LR++(L++(R++D))))) w0 w→Calls Tryz.prog 18 #[.pointer (some ⟨bw,0,none⟩),.int .i64 z] w (Ret0 (.agg (u8s (rootF roots s.X z)).toArray) w):=fun {w A z} hz h=>
  root8_spec (z:=z) (w:=w) (bw:=bw) (bp:=bp) (br:=br) (vR:=vR) (roots:=roots) (At.of_blk (h.has (bw,blk 42 (w8C bp br vR)) (by simp))) (Dgs.own hM.vr (fun p hp=>h.has p (by simp[hp])) hM.r32 (by omega)) hM.rr (fun p hp=>h.has p (by simp[hp])) ok (by omega) hz
 refine cq<|sr<|wA<|wZ<|cB<|CW.loop (fun z f w'=>∃(i:Nat),i≤l.length∧z=l.length - i∧Step [] ((b41,blk 44 (digsL (ds.take i)++digsL (List.replicate (l.length+3 - i) zD)))::(b7,blk 30 [.int .i64 rn,.int .i64 rd,.int .i64 rb])::(bw,blk 42 (w8C bp br vR))::(b5,blk 28 x.cells)::(LR++(L++(R++D)))) w0 w'∧Holds f [(2,.slice va l.length vc),(7,.pointer (some ⟨b7,0,none⟩)),(9,.pointer (some ⟨bw,0,none⟩)),(11,.slice (some ⟨b41,0,none⟩) i (l.length+3)),(12,.int .i64 (i:Nat))]) (m:=l.length) ?_ ?_
 ·exact⟨0,Nat.zero_le _,rfl,hs,rfl,rfl,rfl,rfl,rfl,trivial⟩
 clear hs hs2
 rintro z f w ⟨i,hi,rfl,hs,hf⟩
 by_cases hlt:i<l.length
 ·have ob:∃z,l[i]?=some z:=⟨_,List.getElem?_eq_getElem hlt⟩
  obtain⟨z,hz⟩:=ob
  have hzr:=hl.rng z (List.mem_of_getElem? hz)
  have hdi:ds[i]?=some (rootF roots s.X z):=by rw[←hds,List.getElem?_map,hz];rfl
  have htk:ds.take (i+1)=ds.take i++[rootF roots s.X z]:=by rw[List.take_add_one,hdi];rfl
  have hzl:(u8s (rootF roots s.X z)).length=32:=by rw[u8s,List.length_map];exact rootF_len hM.r32 ok.len z
  have ob:=sl_at1 (c:=fun z:Int=>Value.int .i64 z) hl.sl hz
  obtain⟨bb,bo,bc,hbe,hbc⟩:=ob
  rw[hbe] at hf
  have ob:=hf.chain
  obtain⟨g,rfl⟩:=ob
  have ob:∃d,rootF roots s.X z=d:=⟨_,rfl⟩
  obtain⟨d,hdE⟩:=ob
  have hrt:=fun{w:World}{A:List (Nat×Obj)} h=>hroot (w:=w) (A:=A) hzr h
  rw[hdE] at hzl htk
  simp only[hdE] at hrt
  have htl:(digsL (ds.take i)).length=i*32:=by
   rw[digsL_len fun d h=>hd32 d (List.mem_of_mem_take h),List.length_take]
   omega
  have hrl2:(digsL (List.replicate (l.length+3 - i) zD)).length=(l.length+3 - i)*32:=by rw[digsL_len (zD_32 _),List.length_replicate]
  have hbl:(digsL (ds.take i)++digsL (List.replicate (l.length+3 - i) zD)).length=(l.length+3)*32:=by rw[List.length_append,htl,hrl2];omega
  refine cq<|sr<|wm<|wm<|wV (run_lenSl u25 rfl)<|wV (run_bT (run_lss rfl rfl) (by omega))<|wZ<|CW.cond rfl (fun h=>?_) (fun h=>?_)
  ·refine ck<|cq<|cB<|cr<|wm<|wm<|wm<|wm<|wV (run_ixSlN u25 ty3 rfl rfl (by omega))<|wl ty3 rfl (keepCell hbc hs.clear)<|wE rfl (run_call en18 rfl rfl) (hrt (A:=[_]) hs) ?_
   rintro e w ⟨rfl,hq⟩
   refine⟨_,rfl,?_⟩
   replace hs:=hs.callE hq
   refine WL.buildSlice (cs:=u8s d) u35 ty44 rfl (by decide) rfl (filled1 hzl rfl) rfl hs (fun b55 w hs=>?_)
   have hsl55:Sl w 32 (.slice (some ⟨b55,0,none⟩) 1 1) 1 (u8s d):=.own1 hs (by rw[hzl])
   replace hs:=hs.swap
   refine WL.appendIn u35 u35 ty44 rfl rfl rfl (htl) hs (hbl) (hsl55) ((Cells1.u8s _)) (by omega) rfl (fun w hs=>?_)
   refine wA<|wZ ?_
   replace hs:=Step.sw5 hs
   refine cr<|wm<|wV (run_add (c:=((i+1:Nat):Int)) rfl rfl (by omega) (by omega))<|wA<|wZ<|(show _∧_ from⟨rfl,_,?_,i+1,hlt,rfl,?_,hbe.symm,rfl,rfl,rfl,rfl,trivial⟩)
   ·omega
   ·have e1:l.length+3 - i=(l.length+3 - (i+1))+1:=by omega
    have e2:(digsL (List.replicate (l.length+3 - i) zD)).drop (u8s d).length=digsL (List.replicate (l.length+3 - (i+1)) zD):=by
     rw[hzl,e1,List.replicate_succ]
     rfl
    rw[e2,←digsL_snoc,←htk] at hs
    exact hs
  ·cases h
 ·have ob:=hf.chain
  obtain⟨g,rfl⟩:=ob
  obtain rfl:i=l.length:=by omega
  rw[show l.length+3 - l.length=3 by omega,←hdl,List.take_length] at hs
  refine cq<|sr<|wm<|wm<|wV (run_lenSl u25 rfl)<|wV (run_bF (run_lss rfl rfl) (by omega))<|wZ<|CW.cond rfl (fun h=>?_) (fun h=>?_)
  ·cases h
  have hdsl:=digsL_len hd32
  have hz3:(digsL (List.replicate 3 zD)).length=96:=digsL_len (zD_32 3)
  have hO11:OwnSl 44 32 (.slice (some ⟨b41,0,none⟩) l.length (l.length+3)) ds.length (digsL ds) [(b41,blk 44 (digsL ds++digsL (List.replicate 3 zD)))]:=⟨hdsl,.inr ⟨b41,l.length+3,_,by rw[hdl],rfl,by rw[List.length_append,hdsl,hz3,hdl];omega⟩⟩
  refine CW.exit<|sr<|WL.buildSlice (cs:=[]) u35 ty44 rfl (by decide) rfl (by simp[Filled,Instr.fill]) rfl hs (fun b57 w hs=>?_)
  refine wm<|WL.append u35 u35 ty44 rfl (by decide) rfl rfl ((OwnSl.mk (k:=0) (by simp))) (hs) ((hO11.slH fun p hp=>hs.has p (by rw[List.mem_singleton.1 hp];simp))) ((digsL_c1 _)) (by omega) rfl (fun v59 Lv59 w hv59 hs=>?_)
  refine wA<|wZ ?_
  rw[Nat.zero_add,List.nil_append] at hv59
  replace hs:=Step.perm hs perm_s2
  have hsw:=fun{w:World} h=>sweep_spec (w0:=w) (hM.pr.mono (D':=(b41,blk 44 (digsL ds++digsL (List.replicate 3 zD)))::(Lv59++D)) fun p hp=>by simp[hp]) ok few (by omega) hO11 (fun p hp=>by rw[List.mem_singleton.1 hp];simp) hd32 (by omega) hrm h
  have hswR:=fun{w:World}{D1:List (Nat×Obj)} h=>sweepDR_spec (w0:=w) (hM.rr.mono (D':=D1++((b41,blk 44 (digsL ds++digsL (List.replicate 3 zD)))::(Lv59++D))) fun p hp=>by simp[hp]) ok few (by omega) hv59 (fun p hp=>by simp[hp]) hd32 (by omega) hrm h
  have hpo:=sweepR_ok ok (rm:=rmOf rn rd rb) (roots:=ds)
  have ob:∃pk,sweepR s (rmOf rn rd rb) ds=pk:=⟨_,rfl⟩
  obtain⟨pk,hpk⟩:=ob
  rw[hpk] at hpo
  simp only[hpk] at hsw hswR
  obtain⟨n0,e0,u⟩:=pk
  replace hpo:u.Ok:=hpo
  simp only at hsw hswR
  have ob:=hv59.form
  obtain⟨va59,vc59,hf59⟩:=ob
  refine cq<|CW.any (A:=fun w=>Step [] [(b7,blk 30 [.int .i64 rn,.int .i64 rd,.int .i64 rb]),(bw,blk 42 (w8C bp br vR))] w0 w) (C:=fun w=>Step [] [(b7,blk 30 [.int .i64 rn,.int .i64 rd,.int .i64 rb]),(bw,blk 42 (w8C bp br vR))] w0 w) 1000000 12 mixedP rfl ?_
  replace hs:=hs.drew
  refine aM 0 rfl<|aV 1 rfl (fun w hs=>run_nilCheck rfl)<|aV 2 rfl (fun w hs=>run_field (o':=0) u42 rfl ty39 rfl rfl rfl)<|aV 3 rfl (fun w hs=>run_load1 ty39 rfl (hs.c1 rfl))<|aM 4 rfl<|aV 5 rfl (fun w hs=>run_loadN ty30 rfl rfl hs.a0)<|AL.one 6 (by kernel_rfl) rfl (Step.dropR (L1:=[_,_]) hs) (Step.dropR (L1:=[_,_]) hs) ?_
  refine wE rfl (run_call en23 rfl rfl) (hsw (Two.live (A:=_::_::_::LR) hs)) ?_
  rintro e w ⟨L2,D2,rfl,hP2,hq⟩
  refine⟨_,rfl,?_⟩
  replace hs:=Two.put (A:=_::_::_::LR) hs hq
  refine wZ<|⟨rfl,?_⟩
  refine aM 7 rfl<|aV 8 rfl (fun w hs=>run_extract rfl rfl)<|aV 9 rfl (fun w hs=>run_extract rfl rfl)<|aV 10 rfl (fun w hs=>run_assign)<|aV 11 rfl (fun w hs=>run_assign)<|AL.end (by kernel_rfl) (Step.dropR (L1:=[_,_]) hs) (Step.dropR (L1:=[_,_]) hs) ?_
  refine cq<|CW.any (A:=fun w=>Step [] [(b7,blk 30 [.int .i64 rn,.int .i64 rd,.int .i64 rb]),(bw,blk 42 (w8C bp br vR))] w0 w) (C:=fun w=>Step [] [(b7,blk 30 [.int .i64 rn,.int .i64 rd,.int .i64 rb]),(bw,blk 42 (w8C bp br vR))] w0 w) 1000000 12 mixedP rfl ?_
  replace hs:=hs.drew
  refine aM 0 rfl<|aV 1 rfl (fun w hs=>run_nilCheck rfl)<|aV 2 rfl (fun w hs=>run_field (o':=1) u42 rfl ty40 rfl rfl rfl)<|aV 3 rfl (fun w hs=>run_load1 ty40 rfl (hs.c1 rfl))<|aM 4 rfl<|aV 5 rfl (fun w hs=>run_loadN ty30 rfl rfl hs.a0)<|AL.one 6 (by kernel_rfl) rfl (Step.dropR (L1:=[_,_]) hs) (Step.dropR (L1:=[_,_]) hs) ?_
  refine wE rfl (run_call en24 rfl rfl) (hswR (Two.rlive (A:=_::_::_::LR) hs)) ?_
  rintro e w ⟨R2,D3,rfl,hR2,hq2⟩
  refine⟨_,rfl,?_⟩
  replace hs:=Two.rput (A:=_::_::_::LR) hs hq2
  refine wZ<|⟨rfl,?_⟩
  refine aM 7 rfl<|aV 8 rfl (fun w hs=>run_extract rfl rfl)<|aV 9 rfl (fun w hs=>run_extract rfl rfl)<|aV 10 rfl (fun w hs=>run_assign)<|aV 11 rfl (fun w hs=>run_assign)<|AL.end (by kernel_rfl) (Step.dropR (L1:=[_,_]) hs) (Step.dropR (L1:=[_,_]) hs) ?_
  have hP3:PRep bp u (D3++(D2++((b41,blk 44 (digsL ds++digsL (List.replicate 3 zD)))::(Lv59++D)))) L2:=hP2.mono mem_right
  have hal:=fun{w:World} h1 h2=>alike8_spec (w0:=w) hP3 hR2 hpo h1 h2
  have hzl:(u8s zD).length=32:=rfl
  have hall:∀d∈ds++List.replicate 3 zD,d.length=32:=fun d h=>(List.mem_append.1 h).elim (hd32 d) (zD_32 3 d)
  have hblk:digsL ds++digsL (List.replicate 3 zD)=digsL (ds++List.replicate 3 zD):=(digsL_append _ _).symm
  refine sr<|wm<|wm<|wV (run_lenSl u25 rfl)<|wV (run_add (c:=((l.length+3:Nat):Int)) rfl rfl (by omega) (by omega))<|wV (run_sliceSl0  u35 ty44 rfl rfl rfl (by simp) (by omega) (by omega))<|wA<|wZ<|cq<|sr<|wm<|wV (run_lenSl u25 rfl)<|wA<|wZ<|cB ?_
  refine CW.loop (fun z f w'=>∃(j:Nat),j≤3∧z=3 - j∧Step [] (((b7,blk 30 [.int .i64 rn,.int .i64 rd,.int .i64 rb])::(bw,blk 42 (w8C bp br vR))::(b5,blk 28 x.cells)::LR)++(L2++(R2++(D3++(D2++((b41,blk 44 (digsL ds++digsL (List.replicate 3 zD)))::(Lv59++D))))))) w0 w'∧Holds f [(9,.pointer (some ⟨bw,0,none⟩)),(11,.slice (some ⟨b41,0,none⟩) l.length (l.length+3)),(13,v59),(14,.int .i64 (n0:Nat)),(15,.int .i64 e0),(16,.int .i64 (n0:Nat)),(17,.int .i64 e0),(18,.slice (some ⟨b41,0,none⟩) (l.length+3) (l.length+3)),(19,.int .i64 (l.length+j:Nat))]) (m:=3) ?_ ?_
  ·exact⟨0,Nat.zero_le _,rfl,hs,rfl,rfl,rfl,rfl,rfl,rfl,rfl,rfl,rfl,trivial⟩
  clear hs
  rintro z f w ⟨j,hj,rfl,hs,hf⟩
  have ob:=hf.chain
  obtain⟨g,rfl⟩:=ob
  by_cases hlt:j<3
  ·have hget:(ds++List.replicate 3 zD)[l.length+j]?=some zD:=by
    rw[←hdl,List.getElem?_append_right (by omega),Nat.add_sub_cancel_left,List.getElem?_replicate,if_pos hlt]
   have hat:At w b41 (0+(l.length+j)*32) (u8s zD):=digsL_at hall (by rw[←hblk];exact At.of_blk (hs.has (b41,blk 44 (digsL ds++digsL (List.replicate 3 zD))) (by simp))) hget
   refine cq<|sr<|wm<|wm<|wV (run_lenSl u35 rfl)<|wV (run_bT (run_lss rfl rfl) (by omega))<|wZ<|CW.cond rfl (fun h=>?_) (fun h=>?_)
   ·refine ck<|cq<|cB<|sr<|wm<|wm<|wV (run_ixSlN u35 ty44 rfl rfl (by omega))<|wV (run_loadN ty44 rfl hzl hat)<|wV (run_build rfl ((bld_dig _)))<|wV (run_bF (run_neDig zD_len zD_len rfl rfl) (fun h=>h rfl))<|wZ<|CW.cond rfl (fun h=>?_) (fun h=>?_)
    ·cases h
    refine ck<|cr<|wm<|wV (run_add (c:=((l.length+(j+1):Nat):Int)) rfl rfl (by omega) (by omega))<|wA<|wZ<|(show _∧_ from⟨rfl,_,?_,j+1,hlt,rfl,hs,rfl,rfl,rfl,rfl,rfl,rfl,rfl,rfl,rfl,trivial⟩)
    omega
   ·cases h
  ·obtain rfl:j=3:=by omega
   have hsd:∀{X:List (Nat×Obj)}{w:World},Step [] X w0 w→(b41,blk 44 (digsL ds++digsL (List.replicate 3 zD)))∈X→(∀p∈Lv59,p∈X)→Calls Tryz.prog 20 #[.slice (some ⟨b41,0,none⟩) l.length (l.length+3),v59] w (Ret0 (.bool true) w):=fun {X w} h h1 h2=>by
    have h3:=sameD_spec (w0:=w) (Dgs.own hO11 (fun p hp=>by rw[List.mem_singleton.1 hp];exact h.has _ h1) hd32 (by omega)) (Dgs.own hv59 (fun p hp=>h.has p (h2 p hp)) hd32 (by omega))
    rw[decide_eq_true rfl] at h3;exact h3
   refine cq<|sr<|wm<|wm<|wV (run_lenSl u35 rfl)<|wV (run_bF (run_lss rfl rfl) (by omega))<|wZ<|CW.cond rfl (fun h=>?_) (fun h=>?_)
   ·cases h
   refine CW.exit<|cq<|CW.quiet mixedP (by kernel_rfl) hs ?_
   refine qm<|qm<|qV (fun w hs=>run_bT (run_eql rfl rfl) (by rfl))<|qm<|qy<|qm<|qy<|qm<|qy<|qV (fun w hs=>run_bT (run_eql rfl rfl) (by rfl))<|qV (fun w hs=>run_pickT rfl)<|qm<|qy<|qm ?_
   refine qy<|qm<|qy<|QL.enter rfl (fun w=>run_call en20 rfl rfl) (fun w hs=>hsd hs (by simp) (fun p hp=>by simp[hp])) ?_
   refine qV (fun w hs=>run_pickT rfl)<|qm<|qy<|qm<|qy<|qn rfl<|qy<|qF 0 u42 rfl ty39 rfl<|qy<|qV (fun w hs=>run_load1 ty39 rfl (hs.c1 rfl))<|qy<|qm<|qy<|qn rfl ?_
   refine qy<|qF 1 u42 rfl ty40 rfl<|qy<|qV (fun w hs=>run_load1 ty40 rfl (hs.c1 rfl))<|qy<|QL.enter rfl (fun w=>run_call en22 rfl rfl) (fun w hs=>hal (Two.live (A:=_::_::_::LR) hs) (Two.rlive (A:=_::_::_::LR) hs)) ?_
   refine qV (fun w hs=>run_pickT rfl)<|qV (fun w hs=>run_assign)<|QL.nil (fun w hs=>?_)
   refine CW.ret ?_
   refine fin_ret1 rfl ?_
   exact⟨rfl,hs.clear⟩
end
end Go.Gx
namespace Go.Gx
open Go.Proofs Go.ChangeShapes Go.WideShapes Go.ChangeAt Go.RowKit Go.Deep
open Go.Proofs.YtplmnkogkfhaiaaGreat (Rows.uptoBulk Rows.uptoBulkAll)
section
variable{H:Type}{enc:TypeId×Value→H}{w:World}{spare:Nat→Bool}{held:Bool}
theorem open_nums{v:Value}{d:DataW H}{ps:List MemPlace}{r:Reach}{b0:Nat} (hval:Value.okWide Tryz.prog w r b0 25 v) (h:DataW.Trod enc Tryz.prog w 0 spare held 25 v d ps):∃l:List Int,Nums w v l∧Room v∧(Rows.uptoBulk d≤1048576→l.length≤1048576):=by
 obtain⟨fuel,h⟩:=h
 have ob:=okWide_slice u25 hval
 obtain⟨a0,len,cap,rfl⟩:=ob
 have hc1:Tryz.prog.cellsOf 3=1:=ty3.cellsOf
 rcases ChangeShapes.open_ints (k:=.i64) u25 u3 hc1 h with⟨hc,_⟩ | ⟨a,len',cap',zs,hc,_,hlc,hcm,hm,hx,hi,hwf⟩
 ·have:Value.slice a0 len cap=.slice none 0 0:=by simpa[Value.cells] using hc
  cases this
  exact⟨[],⟨Sl.nil _ _ _,fun z hz=>(by cases hz),by simp⟩,Nat.le_refl 0,fun _=>by simp⟩
 ·have:Value.slice a0 len cap=.slice (some a) len' cap':=by simpa[Value.cells] using hc
  cases this
  have hspot:a.spot=none:=by
   simp only[Value.okWide,u25,Cell.okWide,Cell.ok] at hval
   exact hval.2.2.2.1
  obtain⟨b,off,sp⟩:=a
  simp only at hspot
  subst hspot
  have hle:len≤zs.length:=by rw[hm];split <;> omega
  have hd:d=_:=congrArg Prod.fst hx
  have hmx:maxLen=9223372036854775807:=by decide
  have hlen:=bulk_len (H:=H) (lits .i64 (zs.take len))
  have hll:(lits (H:=H) .i64 (zs.take len)).length=len:=by simp[lits];omega
  have hl2:(zs.take len).length=len:=by simp;omega
  refine⟨zs.take len,⟨?_,fun z hz=>?_,by omega⟩,hlc,fun hb=>by rw[hd] at hb;simp only[Rows.uptoBulk] at hb;omega⟩
  ·rw[hl2]
   refine .mk (by simp[nums];omega) ?_
   intro j v hj
   rw[nums,List.getElem?_map] at hj
   cases hz:(zs.take len)[j]? with
   | none=>rw[hz] at hj;cases hj
   | some n=>
    rw[hz] at hj
    obtain rfl:Value.int .i64 n=v:=by simpa using hj
    have hjl:j<len:=by
     have:=(List.getElem?_eq_some_iff.1 hz).1
     omega
    have h2:=hi j (by omega)
    rw[add_off] at h2
    rw[h2]
    rw[List.getElem?_take,if_pos hjl] at hz
    simp[List.getD,hz]
  ·have hw:=hwf z (List.mem_of_mem_take hz)
   simp only[Lit.wf,Bool.and_eq_true,decide_eq_true_eq] at hw
   have h0:(IntKind.i64).min = -9223372036854775808:=by decide
   have h255:(IntKind.i64).max=9223372036854775807:=by decide
   rw[h0,h255] at hw
   exact hw
end
end Go.Gx
