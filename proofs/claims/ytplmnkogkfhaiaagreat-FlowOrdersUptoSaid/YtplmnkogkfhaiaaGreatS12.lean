/- FlowOrders, walked. -/
import Derived.Test.YtplmnkogkfhaiaaGreatS11
import Derived.Test.YtplmnkogkfhaiaaGreatS2
set_option linter.unusedVariables false
set_option linter.unusedSimpArgs false
set_option maxRecDepth 100000
namespace Go.Gx
open Go.Proofs Go.RowKit List
attribute [local irreducible] shaL cutD frontL
def u8Z (z:Int):UInt8:=UInt8.ofNat (z % 256).toNat
section
variable{P:Program}{f:Slots}{w:World}{d:Option Tmp}{ty:TypeId}{pos:String}{af:Array Edge}{x y:Operand}{T T':TypeId}{k:IntKind}
theorem run_convM{z:Int}{ds:TypeDesc} (hs:P.underlying T=some ds) (ht:P.underlying T'=some (.int .u8)) (hx:ev f x=.int k z) :
  (execOp (ev f) ⟨d,.convert T T' x,ty,pos,af,none⟩).run P w=.ok (.value (.int .u8 (u8Z z).toNat)) w:=by
 rw[run_convInt hs ht hx]
 congr 3
 have h1:0≤z % 256:=Int.emod_nonneg _ (by decide)
 have h2:z % 256<256:=Int.emod_lt_of_pos _ (by decide)
 have h3:(u8Z z).toNat=(z % 256).toNat:=by
  unfold u8Z
  rw[UInt8.toNat_ofNat']
  exact Nat.mod_eq_of_lt (by omega)
 rw[h3]
 have h4:IntKind.u8.wrap z=z % 256:=by simp[IntKind.wrap,IntKind.signed,IntKind.bits]
 rw[h4]
 omega
theorem run_quoT{a b:Int} (hx:ev f x=.int .i64 a) (hy:ev f y=.int .i64 b) (hb:b≠0) (hr : -9223372036854775808≤a.tdiv b∧a.tdiv b≤9223372036854775807):(execOp (ev f) ⟨d,.binOp .quo T x y T',ty,pos,af,none⟩).run P w=.ok (.value (.int .i64 (a.tdiv b))) w:=by
 rw[run_quoW hx hy hb,wrap_i64 hr]
end
def BOn (n:Nat) (D:(List (Nat×Obj))) (B:BL):Prop:=∀t∈B,Held D t.1 t.2∧t.2.length≤n
theorem BOn.mono{n m:Nat}{D D':OL}{B:BL} (h:BOn n D B) (hn:n≤m) (hD:∀p∈D,p∈D'):BOn m D' B:=fun t ht=>⟨(h t ht).1.mono hD,Nat.le_trans (h t ht).2 hn⟩
theorem BOn.sub{n:Nat}{D:OL}{B C:BL} (h:BOn n D B) (hC:∀t∈C,t∈B):BOn n D C:=fun t ht=>h t (hC t ht)
theorem BOn.c1{n:Nat}{D:OL}{B:BL} (h:BOn n D B):Cells1 (cellsB B):=fun v hv=>by
 have ob:=mem_map.1 hv
 obtain⟨t,ht,rfl⟩:=ob
 have ob:=(h t ht).1.form
 obtain⟨a,c,he⟩:=ob
 show t.1.oneCell'=true
 rw[he];rfl
theorem BOn.set{n:Nat}{D:OL}{B:BL}{k:Nat}{t:Value×List UInt8} (h:BOn n D B) (ht:Held D t.1 t.2∧t.2.length≤n):BOn n D (B.set k t):=fun u hu=>by
 rcases mem_or_eq_of_mem_set hu with hu | rfl
 ·exact h u hu
 ·exact ht
theorem cellB{w:World}{b k:Nat}{B:BL}{more:List Value}{t:Value×List UInt8} (h:w.heap[b]?=some (blk 76 (cellsB B++more))) (hk:B[k]?=some t):w.cell? ⟨b,0+k*1,none⟩=some t.1:=by
 rw[Nat.mul_one]
 exact(At.of_blk h).left.cell (by rw[cellsB,getElem?_map,hk];rfl)
theorem set_cellsB{B:BL}{more:List Value}{j:Nat}{t:Value×List UInt8} (h:j<B.length):(cellsB B++more).set (0+j*1) t.1=cellsB (B.set j t)++more:=by
 rw[Nat.zero_add,Nat.mul_one,set_append_left _ _ (by rw[cellsB,length_map];exact h),cellsB,cellsB,map_set]
theorem set_lenB{B:BL}{more:List Value}{j n:Nat}{t:Value×List UInt8} (h:(cellsB B++more).length=n):(cellsB (B.set j t)++more).length=n:=by
 rw[←h];simp[cellsB]
theorem take_cells{w:World}{b k c:Nat}{B:BL}{more:List Value} (h:w.heap[b]?=some (blk 76 (cellsB B++more))) (hk:k≤B.length):Sl w 1 (.slice (some ⟨b,0,none⟩) k c) k (cellsB (B.take k)):=by
 have h1:=(At.of_blk h).left
 have e:cellsB B=cellsB (B.take k)++cellsB (B.drop k):=by rw[←cellsB_app,take_append_drop]
 rw[e] at h1
 exact Sl.mk (by rw[cellsB,length_map,length_take];omega) h1.left
theorem drop_cells{w:World}{b lo c:Nat}{B:BL}{more:List Value} (h:w.heap[b]?=some (blk 76 (cellsB B++more))) (hk:lo≤B.length) (hc:B.length≤c):Sl w 1 (cutSl 1 b 0 lo B.length c) (B.length - lo) (cellsB (B.drop lo)):=by
 have h1:=(At.of_blk h).left
 have e:cellsB B=cellsB (B.take lo)++cellsB (B.drop lo):=by rw[←cellsB_app,take_append_drop]
 rw[e] at h1
 have h2:=h1.right
 have hl:(cellsB (B.take lo)).length=lo:=by rw[cellsB,length_map,length_take];omega
 rw[hl] at h2
 have hcl:(cellsB (B.drop lo)).length=(B.length - lo)*1:=by rw[cellsB,length_map,length_drop];omega
 rw[cutSl]
 by_cases hc2:c=lo
 ·have h9:B.drop lo=[]:=drop_of_length_le (by omega)
  rw[h9] at hcl⊢
  exact Sl.mk hcl At.nil
 ·rw[if_neg hc2]
  exact Sl.mk hcl (by rw[Nat.mul_one];exact h2)
theorem tdiv_rng{a b:Int} (h : -9223372036854775808≤a∧a≤9223372036854775807) (hb:1≤b) : -9223372036854775808≤a.tdiv b∧a.tdiv b≤9223372036854775807:=by
 have h1:=Int.natAbs_tdiv_le_natAbs a b
 have h2:a<0→a.tdiv b≤0:=fun h=>by
  have:=Int.tdiv_nonneg (a:=-a) (b:=b) (by omega) (by omega)
  rw[Int.neg_tdiv] at this
  omega
 have h3:0≤a→0≤a.tdiv b:=fun h=>Int.tdiv_nonneg h (by omega)
 omega
theorem packE_len (b:U8):(packE b).1.length≤4194304:=by
 unfold packE
 split
 ·assumption
 ·exact Nat.zero_le _
section
variable{α:Type}{b x:α}{L G Z:List α}
theorem perm_r1:(x::(L++(b::Z))).Perm (L++(x::b::Z)):=by
 classical exact perm_iff_count.2 fun a=>by simp only[count_append,count_cons];omega
theorem perm_r2:(L++(x::b::(G++Z))).Perm (b::((L++(x::G))++Z)):=by
 classical exact perm_iff_count.2 fun a=>by simp only[count_append,count_cons];omega
end
section
variable{wd z oth:Int}{x y:Stup}{va:Value}{l:List Int}
set_option maxHeartbeats 32000000 in
theorem flowOrders_spec (w0:World) (hx:x.Ok w0) (hy:y.Ok w0) (hz : -9223372036854775808≤z∧z≤9223372036854775807) (hv:Nums w0 va l) (ho : -9223372036854775808≤oth∧oth≤9223372036854775807) :
  CP 12 #[.int .i64 wd,.agg x.cells.toArray,.agg y.cells.toArray,.int .i64 z,va,.int .i64 oth] w0 (Ret0 (.bool true) w0):=by
 have hs:Step [] [] w0 w0:=Step.refl w0
 have hcl:x.cells.length=6:=rfl
 have hcy:y.cells.length=6:=rfl
 have hlen:=hv.len
 have ob:=hv.sl.form
 obtain⟨vp,vc,rfl⟩:=ob
 by_cases hbad:(wd<1∨32<wd)∨¬(0≤x.cap∧x.cap≤67108864)
 ·refine calls (n:=170) Tryz.func12 rfl rfl rfl ?_
  refine sr<|WL.box (cs:=x.cells) rfl rfl rfl hs (fun b7 w hs=>?_)
  refine WL.box (cs:=y.cells) rfl rfl rfl hs (fun b8 w hs=>?_)
  refine wA<|wZ<|cq<|sr<|wE rfl (run_call en15 rfl rfl) (known8_spec _) ?_
  rintro e w ⟨rfl,hq⟩
  refine⟨_,rfl,?_⟩
  replace hs:=hs.callE hq
  refine wN rfl<|wZ<|CW.cond rfl (fun h=>?_) (fun h=>?_)
  ·cases h
  refine ck<|sr<|wm<|wR ty28 rfl hcl hs.a1<|wE rfl (run_call en16 rfl rfl) (made8_bad hbad rfl _) ?_
  rintro e w ⟨rfl,hq⟩
  refine⟨_,rfl,?_⟩
  replace hs:=hs.callE hq
  refine wm<|wx rfl rfl<|wx rfl rfl<|wA<|wA<|wZ<|cq<|sr<|wm<|wN rfl<|wm<|wy<|wm ?_
  refine wy<|wV (run_nilNil u32 rfl rfl)<|pF<|wZ<|CW.cond rfl (fun h=>?_) (fun h=>?_)
  ·refine sr<|wm<|wA<|wZ<|CW.ret ?_
   refine fin_ret1 rfl ?_
   exact⟨rfl,hs.clear⟩
  ·cases h
 have ob:∃k:Nat,wd=k:=⟨wd.toNat,by omega⟩
 obtain⟨k,rfl⟩:=ob
 have ob:∃c:Nat,x.cap=c:=⟨x.cap.toNat,by omega⟩
 obtain⟨c,hc⟩:=ob
 refine calls (n:=170) Tryz.func12 rfl rfl rfl ?_
 refine sr<|WL.box (cs:=x.cells) rfl rfl rfl hs (fun b7 w hs=>?_)
 refine WL.box (cs:=y.cells) rfl rfl rfl hs (fun b8 w hs=>?_)
 refine wA<|wZ<|cq<|sr<|wE rfl (run_call en15 rfl rfl) (known8_spec _) ?_
 rintro e w ⟨rfl,hq⟩
 refine⟨_,rfl,?_⟩
 replace hs:=hs.callE hq
 refine wN rfl<|wZ<|CW.cond rfl (fun h=>?_) (fun h=>?_)
 ·cases h
 refine ck<|sr<|wm<|wR ty28 rfl hcl hs.a1<|wE rfl (run_call en16 rfl rfl) (made8_spec (by omega) (by omega) (by omega) hc _ (hx.step0 hs.clear)) ?_
 rintro e w ⟨bw,bp,br,rfl,s,roots,vR,LR,L,R,D,hM,few,hsk,hrl⟩
 refine⟨_,rfl,?_⟩
 have hs2:=Step.call0 hs hM.hs
 replace hs:=Step.perm hs2 perm_w1
 refine wm<|wx rfl rfl<|wx rfl rfl<|wA<|wA<|wZ ?_
 have ok:=hM.ok
 have hsm:=hM.small
 have ob:∃d,rootF roots s.X z=d:=⟨_,rfl⟩
 obtain⟨d,hdE⟩:=ob
 have hd32:=rootF_len (z:=z) hM.r32 ok.len
 rw[hdE] at hd32
 have ob:∃r,runs s rmG [rootS d] ws0=r:=⟨_,rfl⟩
 obtain⟨r,hr⟩:=ob
 have hr':runs s (rmOf 65536 32 67108864) [rootS d] ws0=r:=hr
 have hrg:=runs_g (s:=s) rmG_ok d
 have hmet:=fun{t:WS} h=>runs_met (s:=s) (rm:=rmG) (t:=t) hd32 h
 have ob:=runs_wkd (s:=s) (rn:=65536) (rd:=32) (rb:=67108864) hd32 rmG_ok
 obtain⟨_,_,_,Wk,_⟩:=ob
 rw[hr'] at Wk
 rw[hr] at hrg hmet
 obtain⟨gf,of,kk,hG⟩:∃gf of kk,r.1=0→Goes (partsM s r.2.m) [d] [] [] gf of kk:=by
  by_cases he:r.1=0
  ·have ob:=(hmet (t:=r.2) (by rw[←he])).goes
   obtain⟨a,b,c,h⟩:=ob
   exact⟨a,b,c,fun _=>h⟩
  ·exact⟨[],[],0,fun h=>absurd h he⟩
 have hroot:∀{w:World}{L1 D1:OL},Step [] (((b8,blk 28 y.cells)::(b7,blk 28 x.cells)::(bw,blk 42 (w8C bp br vR))::LR)++(L1++(R++D1))) w0 w→CP 18 #[pt bw,.int .i64 z] w (Ret0 (.agg (u8s d).toArray) w):=fun {w L1 D1} h=>by
  have h2:=root8_spec (z:=z) (w:=w) (bw:=bw) (bp:=bp) (br:=br) (vR:=vR) (roots:=roots) (At.of_blk (h.has (bw,blk 42 (w8C bp br vR)) (by simp))) (Dgs.own hM.vr (fun p hp=>h.has p (by simp[hp])) hM.r32 (by omega)) hM.rr (fun p hp=>h.has p (by simp[hp])) ok (by omega) hz
  rw[hdE] at h2;exact h2
 have hpack:=fun{w:World} h=>packDR_spec (w0:=w) (rn:=65536) (rd:=32) (rb:=67108864) (gf:=gf) (of:=of) (k:=kk) hM.rr ok few (by omega) hd32 rmG_ok (by rw[hr'];exact hG) h
 simp only[hr'] at hpack
 have ob:∃pk,packR s r of=pk:=⟨_,rfl⟩
 obtain⟨pk,hpk⟩:=ob
 simp only[hpk] at hpack
 refine cq<|sr<|wm<|wN rfl<|wm<|wy<|wm<|wy<|wV (run_ptrNil u32 rfl rfl)<|pF<|wZ<|CW.cond rfl (fun h=>?_) (fun h=>?_)
 ·cases h
 refine ck<|cq<|CW.any (A:=fun w=>Step [] [(b8,blk 28 y.cells),(b7,blk 28 x.cells),(bw,blk 42 (w8C bp br vR))] w0 w) (C:=fun w=>Step [] [(b8,blk 28 y.cells),(b7,blk 28 x.cells),(bw,blk 42 (w8C bp br vR))] w0 w) 1000000 14 mixedP rfl ?_
 replace hs:=hs.drew
 refine aM 0 rfl<|aN 1 rfl rfl<|aF 2 rfl 1 u42 rfl ty40 rfl<|aL 3 rfl ty40 rfl (fun w hs=>hs.c2 rfl)<|aM 4 rfl<|aM 5 rfl<|aV 7 rfl (fun w hs=>run_build rfl (bld_room _ _ _ _))<|AL.one 6 (by kernel_rfl) rfl (Step.dropR (L1:=[_,_,_]) hs) (Step.dropR (L1:=[_,_,_]) hs) ?_
 refine wE rfl (run_call en18 rfl rfl) (hroot hs) ?_
 rintro e w ⟨rfl,hq⟩
 refine⟨_,rfl,?_⟩
 replace hs:=hs.callE hq
 refine wZ<|⟨rfl,?_⟩
 refine AL.one 8 (by kernel_rfl) rfl (Step.dropR (L1:=[_,_,_]) hs) (Step.dropR (L1:=[_,_,_]) hs) ?_
 refine wE rfl (run_call en39 rfl rfl) (hpack (Two.rlive (A:=_::_::_::LR) hs)) ?_
 rintro e w ⟨v1,Lv,R1,D1,rfl,hR1,hvp,hq1⟩
 refine⟨_,rfl,?_⟩
 replace hs:=Two.rput (A:=_::_::_::LR) hs hq1
 refine wZ<|⟨rfl,?_⟩
 refine aM 9 rfl<|aX 10 rfl rfl rfl<|aX 11 rfl rfl rfl<|aA 12 rfl<|aA 13 rfl<|AL.end (by kernel_rfl) (Step.dropR (L1:=[_,_,_]) hs) (Step.dropR (L1:=[_,_,_]) hs) ?_
 by_cases hp0:pk.2≠0
 ·refine cq<|sr<|wm<|wV (run_bT (run_neq rfl rfl) (by exact hp0))<|wZ<|CW.cond rfl (fun h=>?_) (fun h=>?_)
  ·refine sr<|wA<|wZ<|CW.ret ?_
   refine fin_ret1 rfl ?_
   exact⟨rfl,hs.clear⟩
  ·cases h
 replace hp0:pk.2=0:=by simpa using hp0
 have hr0:r.1=0:=by
  rw[←hpk,packR] at hp0
  split at hp0
  ·rename_i h;exact absurd hp0 h
  ·rename_i h;simpa using h
 have hfit:(packB s.k (of.map fun x=>(s.get x).1)).length≤4194304:=by
  rw[←hpk,packR,if_neg (fun h=>h hr0)] at hp0
  split at hp0
  ·assumption
  ·cases hp0
 have K:=pkOk (s:=s) (d:=d) (r:=r) ok hsm hd32 hr hr0 (Wk.len hr0) (hG hr0) hfit
 have ob:∃l0,of.map (fun x=>(s.get x).1)=l0:=⟨_,rfl⟩
 obtain⟨l0,hl0⟩:=ob
 rw[hl0] at K hfit
 have hpk1:pk.1=packB s.k l0:=by rw[←hpk,K.first]
 have hup:upE k (packB k l0)=0:=by
  rw[←hsk,upE,if_neg (by omega),K.up]
 have hup2:(upP k (packB k l0)).2=l0:=by rw[←hsk,K.up]
 rw[hpk1,hsk] at hvp
 have hfit':(packB k l0).length≤4194304:=by rw[←hsk];exact hfit
 have hread:=fun{w1:World} (h:∀p∈Lv,w1.heap[p.1]?=some p.2)=>readBR_spec (k:=k) (v:=v1) w1 (by omega) (hvp.slH h) (hvp.roomW (by decide)) (by omega)
 refine cq<|sr<|wm<|wV (run_bF (run_neq rfl rfl) (by exact fun h=>h hp0))<|wZ<|CW.cond rfl (fun h=>?_) (fun h=>?_)
 ·cases h
 refine ck<|sr<|wm<|wm<|wE rfl (run_call en45 rfl rfl) (hread (fun p hp=>hs.has p (by simp[hp]))) ?_
 rintro e w ⟨v17,B0,LB0,GB0,rfl,hBB,hq⟩
 refine⟨_,rfl,?_⟩
 replace hs:=hs.call0 hq
 refine wm<|wx rfl rfl<|wx rfl rfl<|wA<|wA<|wZ ?_
 have ob:=hBB hup
 obtain⟨hv17,hB0o,hB0l⟩:=ob
 rw[hup2] at hB0l
 have hB0len:B0.length=l0.length:=by rw[←hB0l,length_map]
 have hne0:B0≠[]:=fun h=>K.ne (by rw[←hB0l,h];rfl)
 have hfew0:=K.few
 have ob:∃Z,(((b8,blk 28 y.cells)::(b7,blk 28 x.cells)::(bw,blk 42 (w8C bp br vR))::LR)++(L++(R1++((Lv++D1)++D))))=Z:=⟨_,rfl⟩
 obtain⟨Z,hZ⟩:=ob
 have h8Z:(b8,blk 28 y.cells)∈Z:=by rw[←hZ];simp
 have hwZ:(bw,blk 42 (w8C bp br vR))∈Z:=by rw[←hZ];simp
 have hRZ:∀p∈R1++((Lv++D1)++D),p∈Z:=fun p hp=>by
  rw[←hZ]
  exact mem_append_right _ (mem_append_right _ hp)
 have hR2:RRep br (s.gotN r.2.g) ((Lv++D1)++D) R1:=hR1.mono fun p hp=>by
  simp only[mem_append] at hp⊢
  rcases hp with hp | hp <;> simp[hp]
 have ob:=hR2.look (ok.gotN _).len
 obtain⟨ra,rc,_,hlk⟩:=ob
 replace hs:Step [] (LB0++(GB0++Z)) w0 w:=by
  rw[←append_assoc,←hZ];exact hs
 have hB0n:BOn 1048576 GB0 B0:=hB0o
 clear hs2
 refine CW.seqM (fun f w=>∃(B:BL) (v:Value) (LB GB:OL),B.length≤65600∧BOn 1048600 GB B∧OwnSl 76 1 v B.length (cellsB B) LB∧Step [] (LB++(GB++Z)) w0 w∧Holds f [(0,.int .i64 (k:Nat)),(5,.int .i64 oth),(8,pt b8),(13,pt bw),(17,v)]) ?_ ?_
 ·refine sr<|wA<|wZ<|cB<|CW.loop (fun zz f w'=>∃(i:Nat) (B:BL) (v:Value) (LB GB:OL),i≤20∧i % 2=0∧zz=20 - i∧B.length≤65536+i∧B≠[]∧BOn (1048576+i) GB B∧OwnSl 76 1 v B.length (cellsB B) LB∧Step [] (LB++(GB++Z)) w0 w'∧Holds f [(0,.int .i64 (k:Nat)),(4,.slice vp l.length vc),(5,.int .i64 oth),(8,pt b8),(13,pt bw),(17,v),(19,.int .i64 (i:Nat))]) (m:=20) ?_ ?_
  ·exact⟨0,B0,_,LB0,GB0,Nat.zero_le _,rfl,rfl,by omega,hne0,hB0n,hv17,hs,rfl,rfl,rfl,rfl,rfl,rfl,rfl,trivial⟩
  clear hs hv17 hB0n hB0o
  rintro zz f w ⟨i,B,v,LB,GB,hi20,hev,rfl,hBl,hne,hBn,hvB,hs,hf⟩
  have ob:=hf.chain
  obtain⟨g,rfl⟩:=ob
  have hBpos:0<B.length:=length_pos_iff.2 hne
  by_cases hlt:i+1<l.length∧i<20
  ·obtain⟨hl1,hl20⟩:=hlt
   have ob:∃z,l[i]?=some z:=⟨_,getElem?_eq_getElem (by omega)⟩
   obtain⟨z1,hz1⟩:=ob
   have ob:∃z,l[i+1]?=some z:=⟨_,getElem?_eq_getElem hl1⟩
   obtain⟨z2,hz2⟩:=ob
   have hzr1:=hv.rng z1 (mem_of_getElem? hz1)
   have hzr2:=hv.rng z2 (mem_of_getElem? hz2)
   have ob:=sl_at1 (c:=fun z:Int=>Value.int .i64 z) hv.sl hz1
   obtain⟨bb,bo,bc,hbe,hbc⟩:=ob
   have ob:=sl_at1 (c:=fun z:Int=>Value.int .i64 z) hv.sl hz2
   obtain⟨bb2,bo2,bc2,hbe2,hbc2⟩:=ob
   cases hbe
   cases hbe2
   have ob:=hvB.some1 hBpos
   obtain⟨bB,cB,more,rfl,rfl,hmore⟩:=ob
   have hcB:B.length≤cB:=by
    have:(cellsB B++more).length=cB*1:=hmore
    rw[length_append,cellsB,length_map] at this
    omega
   have hrd1:=fun w1=>roundL_spec (a:=z1) (n:=B.length) hBpos (by omega) hzr1 w1
   have hrd2:=fun w1=>roundL_spec (a:=z2) (n:=B.length) hBpos (by omega) hzr2 w1
   have hrd3:=fun w1=>roundL_spec (a:=z1.tdiv 64) (n:=4) (by decide) (by decide) (tdiv_rng hzr1 (by decide)) w1
   have hlt1:=roundZ_lt (a:=z1) hBpos
   have hlt2:=roundZ_lt (a:=z2) hBpos
   have ob:∃k1,roundZ z1 B.length=k1:=⟨_,rfl⟩
   obtain⟨k1,hk1⟩:=ob
   have ob:∃k2,roundZ z2 B.length=k2:=⟨_,rfl⟩
   obtain⟨k2,hk2⟩:=ob
   have ob:∃k3,roundZ (z1.tdiv 64) 4=k3:=⟨_,rfl⟩
   obtain⟨k3,hk3⟩:=ob
   rw[hk1] at hlt1
   rw[hk2] at hlt2
   simp only[hk1] at hrd1
   simp only[hk2] at hrd2
   simp only[hk3] at hrd3
   have ob:∃t,B[k1]?=some t:=⟨_,getElem?_eq_getElem hlt1⟩
   obtain⟨t1,ht1⟩:=ob
   have ob:∃t,B[k2]?=some t:=⟨_,getElem?_eq_getElem hlt2⟩
   obtain⟨t2,ht2⟩:=ob
   have hm1:=hBn t1 (mem_of_getElem? ht1)
   have hm2:=hBn t2 (mem_of_getElem? ht2)
   obtain⟨x1,y1⟩:=t1
   obtain⟨x2,y2⟩:=t2
   have ob:=hm1.1.form
   obtain⟨a1,c1,he1⟩:=ob
   have ob:=hm2.1.form
   obtain⟨a2,c2,he2⟩:=ob
   simp only at he1 he2
   subst he1 he2
   simp only at hm1 hm2
   replace hs:Step [] ((bB,blk 76 (cellsB B++more))::(GB++Z)) w0 w:=hs
   refine cq<|sr<|wm<|wP ((i+1:Nat):Int)<|wm<|wL u25 rfl<|lT<|wm<|wy<|wm<|wy<|lT<|pT<|wZ ?_
   refine CW.cond rfl (fun h=>?_) (fun h=>?_)
   ·refine CW.skip<|CW.seq<|CW.block<|CW.seq<|CW.reg<|WL.val rfl (run_move)<|WL.val rfl (run_move)<|WL.val rfl (run_ixSlN Tryz.underlying25 ty3 rfl rfl (by omega))<|WL.val rfl (run_load1 ty3 rfl (keepCell hbc hs.clear))<|WL.val rfl (run_move)<|WL.val rfl (run_lenSl Tryz.underlying24 rfl)<|wE rfl (run_call en46 rfl rfl) (hrd1 _) ?_
    rintro e w ⟨rfl,hq⟩
    refine⟨_,rfl,?_⟩
    replace hs:=hs.callE hq
    refine wA<|wZ<|sr<|wm<|wm<|wP ((i+1:Nat):Int)<|wI u25 ty3 rfl rfl<|wl ty3 rfl (keepCell hbc2 hs.clear)<|wm<|wL u24 rfl<|wE rfl (run_call en46 rfl rfl) (hrd2 _) ?_
    rintro e w ⟨rfl,hq⟩
    refine⟨_,rfl,?_⟩
    replace hs:=hs.callE hq
    refine wA<|wZ<|CW.seqM (fun f w=>∃(B:BL) (v:Value) (LB GB:OL),B.length≤65536+(i+1)∧BOn (1048576+(i+1)) GB B∧OwnSl 76 1 v B.length (cellsB B) LB∧Step [] (LB++(GB++Z)) w0 w∧Holds f [(0,.int .i64 (k:Nat)),(4,.slice (some ⟨bb,bo,none⟩) l.length vc),(5,.int .i64 oth),(8,pt b8),(13,pt bw),(17,v),(19,.int .i64 (i:Nat))]) ?_ ?_
    ·refine sr<|wm<|wm<|wI u25 ty3 rfl rfl<|wl ty3 rfl (keepCell hbc hs.clear)<|wV (run_quoT rfl rfl (by decide) (tdiv_rng hzr1 (by decide)))<|wE rfl (run_call en46 rfl rfl) (hrd3 _) ?_
     rintro e w ⟨rfl,hq⟩
     refine⟨_,rfl,?_⟩
     replace hs:=hs.callE hq
     refine wZ ?_
     by_cases c0:k3=0
     ·refine CW.block<|CW.seq<|CW.reg<|WL.val rfl (run_bT (run_eql rfl rfl) (by exact congrArg Int.ofNat c0))<|WL.val rfl (run_assign)<|WL.nil<|CW.cond rfl (fun h=>?_) (fun h=>?_)
      ·refine sr<|wm<|wm<|wI u24 ty76 rfl rfl<|wl ty76 rfl (cellB hs.hd ht1)<|wA<|wZ<|sr<|wm<|wm<|wm<|wm<|wI u24 ty76 rfl rfl<|wl ty76 rfl (cellB hs.hd ht2)<|wI u24 ty76 rfl rfl ?_
       refine ws1 ty76 rfl rfl (rfl) hs (fun w hs=>?_)
       refine wZ ?_
       replace hs:Step [] ((bB,blk 76 (cellsB (B.set k1 (.slice a2 y2.length c2,y2))++more))::(GB++Z)) w0 w:=hs.cast (set_cellsB (t:=(.slice a2 y2.length c2,y2)) hlt1)
       have hmore2:=set_lenB (j:=k1) (t:=(.slice a2 y2.length c2,y2)) hmore
       refine cr<|wm<|wm<|wm<|wI u24 ty76 rfl rfl<|ws1 ty76 rfl rfl (rfl) hs (fun w hs=>?_)
       refine wZ ?_
       replace hs:Step [] ((bB,blk 76 (cellsB ((B.set k1 (.slice a2 y2.length c2,y2)).set k2 (.slice a1 y1.length c1,y1))++more))::(GB++Z)) w0 w:=hs.cast (set_cellsB (t:=(.slice a1 y1.length c1,y1)) (by rw[length_set];exact hlt2))
       have hmore3:=set_lenB (j:=k2) (t:=(.slice a1 y1.length c1,y1)) hmore2
       have hl3:((B.set k1 (.slice a2 y2.length c2,y2)).set k2 (.slice a1 y1.length c1,y1)).length=B.length:=by rw[length_set,length_set]
       exact⟨rfl,_,_,[(bB,_)],GB,by rw[hl3];omega,((hBn.set (k:=k1) hm2).set (k:=k2) hm1).mono (by omega) (fun _ h=>h),⟨by rw[cellsB,length_map,Nat.mul_one],.inr ⟨bB,cB,more,by rw[hl3],rfl,hmore3⟩⟩,hs,rfl,rfl,rfl,rfl,rfl,rfl,rfl,trivial⟩
      ·cases h
     refine CW.block<|CW.seq<|CW.reg<|WL.val rfl (run_bF (run_eql rfl rfl) (by exact fun h=>c0 (Int.ofNat.inj h)))<|WL.val rfl (run_assign)<|WL.nil<|CW.cond rfl (fun h=>?_) (fun h=>?_)
     ·cases h
     by_cases c1':k3=1
     ·refine sr<|wV (run_bT (run_eql rfl rfl) (by exact congrArg Int.ofNat c1'))<|wA<|wZ<|CW.cond rfl (fun h=>?_) (fun h=>?_)
      ·have htk:(B.take k1).length=k1:=by rw[length_take];omega
       have hdk:(B.drop (k1+1)).length=B.length - (k1+1):=length_drop
       refine CW.any (A:=fun w=>True) (C:=fun w=>True) 1000000 11 mixedP rfl ?_
       replace hs:=hs.drew
       refine aM 1 rfl<|aM 2 rfl<|aV 3 rfl (fun w hs=>run_sliceSl0  u24 ty76 rfl rfl rfl (by simp) (by omega) (by omega))<|aM 5 rfl<|aM 6 rfl<|aV 7 rfl (fun w hs=>run_add (c:=((k1+1:Nat):Int)) rfl rfl (by omega) (by omega))<|aV 8 rfl (fun w hs=>run_sliceSlE (lo:=k1+1) (hi:=B.length) (m:=cB) u24 ty76 rfl rfl rfl rfl (by simp) (by omega) (by omega) (by omega) rfl)<|AL.one 0 (by kernel_rfl) rfl (trivial) (trivial) ?_
       refine WL.buildSlice (cs:=[]) u24 ty76 rfl (by decide) rfl (by simp[Filled,Instr.fill]) rfl hs (fun b111 w hs=>?_)
       refine wZ<|⟨rfl,?_⟩
       refine AL.one 4 (by kernel_rfl) rfl (trivial) (trivial) ?_
       refine WL.append u24 u24 ty76 rfl (by decide) rfl rfl ((OwnSl.mk (k:=0) (by simp))) (hs) ((take_cells (hs.has (bB,blk 76 (cellsB B++more)) (by simp)) (by omega))) ((hBn.sub fun t ht=>mem_of_mem_take ht).c1) (by omega) rfl (fun v115 Lv115 w hv115 hs=>?_)
       refine wZ<|⟨rfl,?_⟩
       refine AL.one 9 (by kernel_rfl) rfl (trivial) (trivial) ?_
       refine WL.append u24 u24 ty76 rfl (by decide) rfl rfl (hv115) (hs) ((drop_cells (hs.has (bB,blk 76 (cellsB B++more)) (by simp)) (by omega) hcB)) ((hBn.sub fun t ht=>mem_of_mem_drop ht).c1) (by omega) rfl (fun v120 Lv120 w hv120 hs=>?_)
       refine wZ<|⟨rfl,?_⟩
       refine aA 10 rfl<|AL.end (by kernel_rfl) (trivial) (trivial) ?_
       have hv2:OwnSl 76 1 v120 (B.take k1++B.drop (k1+1)).length (cellsB (B.take k1++B.drop (k1+1))) Lv120:=by
        rw[length_append,cellsB_app,htk,hdk]
        simpa using hv120
       exact⟨rfl,_,_,Lv120,(bB,_)::GB,by rw[length_append,htk,hdk];omega,(hBn.sub fun t ht=>(mem_append.1 ht).elim mem_of_mem_take mem_of_mem_drop).mono (by omega) (fun p hp=>mem_cons_of_mem _ hp),hv2,hs,rfl,rfl,rfl,rfl,rfl,rfl,rfl,trivial⟩
      ·cases h
     refine sr<|wV (run_bF (run_eql rfl rfl) (by exact fun h=>c1' (Int.ofNat.inj h)))<|wA<|wZ<|CW.cond rfl (fun h=>?_) (fun h=>?_)
     ·cases h
     by_cases c2':k3=2
     ·refine sr<|wV (run_bT (run_eql rfl rfl) (by exact congrArg Int.ofNat c2'))<|wA<|wZ<|CW.cond rfl (fun h=>?_) (fun h=>?_)
      ·skip
       refine cr<|wm<|wm<|wm<|wI u24 ty76 rfl rfl<|wl ty76 rfl (cellB hs.hd ht1)<|WL.buildSlice (cs:=[.slice a1 y1.length c1]) u24 ty76 rfl (by decide) rfl (filled_s _ _ rfl) rfl hs (fun b128 w hs=>?_)
       have hsl128:Sl w 1 (.slice (some ⟨b128,0,none⟩) 1 1) 1 (cellsB [(Value.slice a1 y1.length c1,y1)]):=.own1 hs rfl
       replace hs:=hs.swap
       refine WL.append u24 u24 ty76 rfl (by decide) rfl rfl (hvB) (hs) (hsl128) (Cells1.of_all rfl) (by omega) rfl (fun v129 Lv129 w hv129 hs=>?_)
       refine wA<|wZ ?_
       have hv2:OwnSl 76 1 v129 (B++[(Value.slice a1 y1.length c1,y1)]).length (cellsB (B++[(Value.slice a1 y1.length c1,y1)])) Lv129:=by
        rw[length_append,cellsB_app]
        exact hv129
       exact⟨rfl,B++[(Value.slice a1 y1.length c1,y1)],_,Lv129,(b128,_)::GB,by rw[length_append];show _+1≤_;omega,(fun t ht=>((mem_append.1 ht).elim (fun h=>(hBn.mono (by omega) (fun p hp=>mem_cons_of_mem _ hp)) t h) fun h=>by rw[mem_singleton.1 h];exact(hBn.mono (by omega) (fun p hp=>mem_cons_of_mem _ hp)) _ (mem_of_getElem? ht1))),hv2,hs,rfl,rfl,rfl,rfl,rfl,rfl,rfl,trivial⟩
      ·cases h
     refine sr<|wV (run_bF (run_eql rfl rfl) (by exact fun h=>c2' (Int.ofNat.inj h)))<|wA<|wZ<|CW.cond rfl (fun h=>?_) (fun h=>?_)
     ·cases h
     by_cases c3:k3=3
     ·refine sr<|wV (run_bT (run_eql rfl rfl) (by exact congrArg Int.ofNat c3))<|wA<|wZ<|CW.cond rfl (fun h=>?_) (fun h=>?_)
      ·skip
       refine cr<|wm<|wm<|WL.buildSlice (cs:=[]) u76 ty5 rfl (by decide) rfl (by simp[Filled,Instr.fill]) rfl hs (fun b134 w hs=>?_)
       refine wm<|wm<|wI u24 ty76 rfl rfl<|wl ty76 rfl (cellB (hs.has (bB,blk 76 (cellsB B++more)) (by simp)) ht1)<|WL.append u76 u76 ty5 rfl (by decide) rfl rfl ((OwnSl.mk (k:=0) (by simp))) (hs) ((hm1.1.sl fun p hp=>hs.has p (by simp[hp]))) (Cells1.u8s _) (by omega) rfl (fun v139 Lv139 w hv139 hs=>?_)
       refine wm<|wV (run_convM u3 u5 rfl)<|WL.buildSlice (cs:=(u8s [u8Z (k2:Nat)])) u76 ty5 rfl (by decide) rfl (filled_s _ _ rfl) rfl hs (fun b142 w hs=>?_)
       have hsl142:Sl w 1 (.slice (some ⟨b142,0,none⟩) 1 1) 1 (u8s [u8Z (k2:Nat)]):=.own1 hs rfl
       replace hs:=Step.perm hs perm_r1
       refine WL.append u76 u76 ty5 rfl (by decide) rfl rfl (hv139) (hs) (hsl142) (Cells1.u8s _) (by omega) rfl (fun v143 Lv143 w hv143 hs=>?_)
       replace hs:=Step.perm hs perm_r2
       refine wI u24 ty76 rfl rfl<|ws1 ty76 rfl rfl (hv143.one) hs (fun w hs=>?_)
       refine wZ ?_
       have hv143':OwnSl 5 1 v143 (y1++[u8Z (k2:Nat)]).length (u8s (y1++[u8Z (k2:Nat)])) Lv143:=by
        rw[length_append]
        simpa[u8s] using hv143
       replace hs:Step [] ((bB,blk 76 (cellsB (B.set k1 (v143,y1++[u8Z (k2:Nat)]))++more))::((Lv143++((b142,blk 5 (u8s [u8Z (k2:Nat)]))::GB))++Z)) w0 w:=hs.cast (set_cellsB (t:=(v143,y1++[u8Z (k2:Nat)])) hlt1)
       have hmore2:=set_lenB (j:=k1) (t:=(v143,y1++[u8Z (k2:Nat)])) hmore
       have hl3:(B.set k1 (v143,y1++[u8Z (k2:Nat)])).length=B.length:=length_set
       have hh:Held (Lv143++((b142,blk 5 (u8s [u8Z (k2:Nat)]))::GB)) v143 (y1++[u8Z (k2:Nat)]):=⟨Lv143,hv143',fun p hp=>mem_append_left _ hp⟩
       exact⟨rfl,_,_,[(bB,_)],_,by rw[hl3];omega,BOn.set (hBn.mono (by omega) (fun p hp=>mem_append_right _ (mem_cons_of_mem _ hp))) ⟨hh,by rw[length_append];show _+1≤_;omega⟩,⟨by rw[cellsB,length_map,Nat.mul_one],.inr ⟨bB,cB,more,by rw[hl3],rfl,hmore2⟩⟩,hs,rfl,rfl,rfl,rfl,rfl,rfl,rfl,trivial⟩
      ·cases h
     refine sr<|wV (run_bF (run_eql rfl rfl) (by exact fun h=>c3 (Int.ofNat.inj h)))<|wA<|wZ<|CW.cond rfl (fun h=>?_) (fun h=>?_)
     ·cases h
     refine ck ?_
     exact⟨rfl,B,_,[(bB,_)],GB,by omega,hBn.mono (by omega) (fun _ h=>h),hvB,hs,rfl,rfl,rfl,rfl,rfl,rfl,rfl,trivial⟩
    clear hs hvB hBn
    rintro f w ⟨B',v',LB',GB',hBl',hBn',hvB',hs,hf⟩
    have ob:=hvB'.form
    obtain⟨va',vc',rfl⟩:=ob
    have ob:=hf.chain
    obtain⟨g,rfl⟩:=ob
    by_cases hem:B'.length=0
    ·refine sr<|wm<|wL u24 rfl<|wV (run_bT (run_eql rfl rfl) (by exact congrArg Int.ofNat hem))<|wZ<|CW.cond rfl (fun h=>?_) (fun h=>?_)
     ·refine CW.exit ?_
      exact⟨rfl,B',_,LB',GB',by omega,hBn'.mono (by omega) (fun _ h=>h),hvB',hs,rfl,rfl,rfl,rfl,rfl,trivial⟩
     ·cases h
    ·refine sr<|wm<|wL u24 rfl<|wV (run_bF (run_eql rfl rfl) (by exact fun h=>hem (Int.ofNat.inj h)))<|wZ<|CW.cond rfl (fun h=>?_) (fun h=>?_)
     ·cases h
     refine ck<|cr<|wm<|wP ((i+2:Nat):Int)<|wA<|wZ<|(show _∧_ from⟨rfl,_,?_,i+2,B',_,LB',GB',by omega,by omega,rfl,?_,?_,?_,hvB',hs,rfl,rfl,rfl,rfl,rfl,rfl,rfl,trivial⟩)
     ·omega
     ·omega
     ·exact fun h=>hem (by rw[h];rfl)
     ·exact hBn'.mono (by omega) (fun _ h=>h)
   ·cases h
  ·by_cases hl1:i+1<l.length
   ·refine cq<|sr<|wm<|wP ((i+1:Nat):Int)<|wm<|wL u25 rfl<|lT<|wm<|wy<|wm<|wy<|lF<|pT<|wZ ?_
    refine CW.cond rfl (fun h=>?_) (fun h=>?_)
    ·cases h
    refine CW.exit ?_
    exact⟨rfl,B,v,LB,GB,by omega,hBn.mono (by omega) (fun _ h=>h),hvB,hs,rfl,rfl,rfl,rfl,rfl,trivial⟩
   ·refine cq<|sr<|wm<|wP ((i+1:Nat):Int)<|wm<|wL u25 rfl<|lF<|wm<|wz<|wz<|pF<|wZ<|CW.cond rfl (fun h=>?_) (fun h=>?_)
    ·cases h
    refine CW.exit ?_
    exact⟨rfl,B,v,LB,GB,by omega,hBn.mono (by omega) (fun _ h=>h),hvB,hs,rfl,rfl,rfl,rfl,rfl,trivial⟩
 clear hs hv17 hB0n hB0o
 rintro f w ⟨B,v,LB,GB,hBl,hBn,hvB,hs,hf⟩
 have ob:=hf.chain
 obtain⟨g,rfl⟩:=ob
 refine CW.seqM (fun f w=>∃W:Nat,W≤33∧Step [] (LB++(GB++Z)) w0 w∧Holds f [(0,.int .i64 (W:Nat)),(8,pt b8),(13,pt bw),(17,v)]) ?_ ?_
 ·have hrd1:=fun w1=>roundL_spec (a:=oth) (n:=8) (by decide) (by decide) ho w1
  have hrd2:=fun w1=>roundL_spec (a:=oth.tdiv 8) (n:=34) (by decide) (by decide) (tdiv_rng ho (by decide)) w1
  have hlt2:=roundZ_lt (a:=oth.tdiv 8) (n:=34) (by decide)
  have ob:∃k1,roundZ oth 8=k1:=⟨_,rfl⟩
  obtain⟨k1,hk1⟩:=ob
  have ob:∃k2,roundZ (oth.tdiv 8) 34=k2:=⟨_,rfl⟩
  obtain⟨k2,hk2⟩:=ob
  rw[hk2] at hlt2
  simp only[hk1] at hrd1
  simp only[hk2] at hrd2
  by_cases c0:k1=0
  ·refine sr<|wm<|wE rfl (run_call en46 rfl rfl) (hrd1 _) ?_
   rintro e w ⟨rfl,hq⟩
   refine⟨_,rfl,?_⟩
   replace hs:=hs.callE hq
   refine wV (run_bT (run_eql rfl rfl) (by exact congrArg Int.ofNat c0))<|wZ<|CW.cond rfl (fun h=>?_) (fun h=>?_)
   ·skip
    refine cr<|wm<|wV (run_quoT rfl rfl (by decide) (tdiv_rng ho (by decide)))<|wE rfl (run_call en46 rfl rfl) (hrd2 _) ?_
    rintro e w ⟨rfl,hq⟩
    refine⟨_,rfl,?_⟩
    replace hs:=hs.callE hq
    refine wA<|wZ ?_
    exact⟨rfl,k2,by omega,hs,rfl,rfl,rfl,rfl,trivial⟩
   ·cases h
  ·refine sr<|wm<|wE rfl (run_call en46 rfl rfl) (hrd1 _) ?_
   rintro e w ⟨rfl,hq⟩
   refine⟨_,rfl,?_⟩
   replace hs:=hs.callE hq
   refine wV (run_bF (run_eql rfl rfl) (by exact fun h=>c0 (Int.ofNat.inj h)))<|wZ<|CW.cond rfl (fun h=>?_) (fun h=>?_)
   ·cases h
   refine ck ?_
   exact⟨rfl,k,by omega,hs,rfl,rfl,rfl,rfl,trivial⟩
 clear hs
 rintro f w ⟨W,hW,hs,hf⟩
 have ob:=hf.chain
 obtain⟨g,rfl⟩:=ob
 have hpk2:=fun{w1:World} (h:∀p∈LB++GB,w1.heap[p.1]?=some p.2)=>packedR_spec (v:=v) (B:=B) (k:=W) w1 (hvB.slH fun p hp=>h p (mem_append_left _ hp)) (fun t ht=>⟨by have:=(hBn t ht).2;omega,(hBn t ht).1.sl fun p hp=>h p (mem_append_right _ hp)⟩) (by omega) hW
 have hplen:=packE_len (packB W (B.map fun t=>t.2))
 refine sr<|wm<|wm<|wE rfl (run_call en47 rfl rfl) (hpk2 (fun p hp=>hs.has p (by rw[←append_assoc];exact mem_append_left _ hp))) ?_
 rintro e w ⟨vu,Lu,rfl,hvu,hq⟩
 refine⟨_,rfl,?_⟩
 replace hs:=hs.call0 hq
 refine wm<|wx rfl rfl<|wx rfl rfl<|wA<|wA<|wZ ?_
 have hfin:=fun{w1:World}{Y:OL} (h:Step [] (Lu++Y) w0 w1)=>flowUnpacks_spec (wd:=(s.k:Nat)) (x:=y) w1 (hy.step0 h.clear) (hvu.slH fun p hp=>h.has p (mem_append_left _ hp)) (hvu.roomW (by decide)) (by omega)
 refine cq<|CW.any (A:=fun w=>∀p∈Z,w.heap[p.1]?=some p.2) (C:=fun w=>∀p∈Z,w.heap[p.1]?=some p.2) 1000000 11 mixedP rfl ?_
 replace hs:=hs.drew
 refine aM 0 rfl<|aN 1 rfl rfl<|aF 2 rfl 1 u42 rfl ty40 rfl<|aL 3 rfl ty40 rfl (fun w hs=>(At.of_blk (hs _ hwZ)).cell (j:=1) rfl)<|aN 4 rfl rfl<|aF 5 rfl 0 u54 rfl ty3 rfl<|aL 6 rfl ty3 rfl (fun w hs=>(hlk (fun p hp=>hs p (hRZ p (mem_append_left _ hp)))).1.cell (j:=0) rfl)<|aV 7 rfl (fun w hs=>run_loadN ty28 rfl hcy (At.of_blk (hs _ h8Z)))<|aM 8 rfl<|AL.one 9 (by kernel_rfl) rfl (fun p hp=>hs.has p (by simp[hp])) (fun p hp=>hs.has p (by simp[hp])) ?_
 refine wE rfl (run_call en11 rfl rfl) (hfin hs) ?_
 rintro e w ⟨rfl,hq3⟩
 refine⟨_,rfl,?_⟩
 replace hs:=hs.callE hq3
 refine wZ<|⟨rfl,?_⟩
 refine aA 10 rfl<|AL.end (by kernel_rfl) (fun p hp=>hs.has p (by simp[hp])) (fun p hp=>hs.has p (by simp[hp])) ?_
 refine CW.ret ?_
 refine fin_ret1 rfl ?_
 exact⟨rfl,hs.clear⟩
end
end Go.Gx
