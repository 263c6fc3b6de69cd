/- FlowFree, walked. -/
import Derived.Test.YtplmnkogkfhaiaaGreatR9
import Derived.Test.YtplmnkogkfhaiaaGreatR1
set_option linter.unusedVariables false
set_option linter.unusedSimpArgs false
set_option maxRecDepth 100000
namespace Go.Gx
open Go.Proofs Go.RowKit List
attribute [local irreducible] shaL cutD frontL
theorem filledA2{v u z:Value} (hv:v.oneCell'=true) (hu:u.oneCell'=true):Filled 1 2 [z] [(0,v),(1,u)] [v,u]:=by
 have h1:=cells_one hv
 have h2:=cells_one hu
 simp[Filled,Instr.fill,h1,h2]
section
variable{α:Type}{a b c e:α}{A L R D L' Lv D' X Y Z L1 L2 L3 L4 L5 L6:List α}
theorem perm_f0:(A++(L'++(R++((Lv++D')++D)))).Perm ((Lv++A)++(L'++(R++(D'++D)))):=by
 classical exact perm_iff_count.2 fun x=>by simp only[count_append];omega
theorem perm_f1:(L1++((L2++(L3++(L4++(L5++(L6++X)))))++Y)).Perm (L6++(L4++(L3++((L1++(L2++(L5++X)))++Y)))):=by
 classical exact perm_iff_count.2 fun x=>by simp only[count_append];omega
theorem perm_f3:(c::b::a::Y).Perm (a::b::c::Y):=by
 classical exact perm_iff_count.2 fun x=>by simp only[count_cons];omega
theorem perm_f4:(b::a::c::Y).Perm (c::b::a::Y):=by
 classical exact perm_iff_count.2 fun x=>by simp only[count_cons];omega
theorem perm_f5:(L1++(a::b::c::X)).Perm (b::(L1++(a::c::X))):=by
 classical exact perm_iff_count.2 fun x=>by simp only[count_append,count_cons];omega
theorem perm_f6:((L1++(L2++(L3++(a::(L4++(b::c::(L5++(L6++(Z++X)))))))))++Y).Perm ((Z++(L6++[]))++((L1++(L2++(L3++(a::(L4++(b::c::(L5++X))))))++Y))):=by
 classical exact perm_iff_count.2 fun x=>by simp only[count_append,count_cons,count_nil];omega
theorem perm_f7:(a::(L1++X)).Perm (L1++(a::X)):=by
 classical exact perm_iff_count.2 fun x=>by simp only[count_append,count_cons];omega
theorem perm_f8:(A++(L++(R++D))).Perm (L++(A++(R++D))):=by
 classical exact perm_iff_count.2 fun x=>by simp only[count_append];omega
end
theorem Two.putA{S:List Nat}{A L R D L' Lv D':OL}{w0 w w':World} (hs:Step S (A++(L++(R++D))) w0 w) (hq:Step (L.map (·.1)) (L'++(Lv++D')) w w'):Step S ((Lv++A)++(L'++(R++(D'++D)))) w0 w':=(Two.put hs hq).perm perm_f0
theorem Two.hold{S:List Nat}{A L R D Y:OL}{w0 w w1:World} (hs:Step S (A++(L++(R++D))) w0 w) (hq:Step (L.map (·.1)) Y w w1):∀p∈A,w1.heap[p.1]?=some p.2:=fun p hp=>(Step.call (hs.perm perm_f8) hq).has p (by simp[hp])
theorem out_blk{S:List Nat}{b n c:Nat}{o:Obj}{X Y:OL}{y:U8}{w0 w:World} (hs:Step S ((b,o)::X) w0 w) (h:∀p∈Y,p∈X):OutE (.slice (some ⟨b,0,none⟩) n c) y (Y.map (·.1)):=.inr (by unfold Outside;exact out_hd hs h)
theorem digsL_own{w:World}{b off c:Nat}{l:List (List UInt8)}{i:Nat}{d:U8} (h:Sl w 32 (.slice (some ⟨b,off,none⟩) l.length c) l.length (digsL l)) (h32:∀d∈l,d.length=32) (hi:l[i]?=some d):At w b (off+i*32) (u8s d):=
 digsL_at h32 (h.atB (by have:=(List.getElem?_eq_some_iff.1 hi).1;omega)) hi
def vs2 (v u:Value) (i:Nat):Value:=if i=0 then v else u
def ns2 (n m:Nat) (i:Nat):Nat:=if i=0 then n else m
def xs2 (x y:List Value) (i:Nat):List Value:=if i=0 then x else y
def Ls2 (L M:(List (Nat×Obj))) (i:Nat):(List (Nat×Obj)):=if i=0 then L else M
theorem grown2{v u:Value}{n m b c:Nat}{x y:List Value}{L M X:OL}{T:TypeId}{w0 w:World} (hv:OwnSl 5 1 v n x L) (hu:OwnSl 5 1 u m y M) (hn:n≤5000000) (hm:m≤5000000) (hs:Step [] ((b,blk T [v,u])::((L++(M++[]))++X)) w0 w) :
  CP 37 #[.slice (some ⟨b,0,none⟩) 2 c] w fun e w'=>e=.returned (.bool true)∧Step [] ((b,blk T [v,u])::X) w0 w':=by
 have hl:allL (Ls2 L M) 2=L++(M++[]):=rfl
 have hs2:Step [] ((L++(M++[]))++((b,blk T [v,u])::X)) w0 w:=hs.perm perm_f7
 refine(grownB_spec (N:=2) (vs:=vs2 v u) (ns:=ns2 n m) (xs:=xs2 x y) (Ls:=Ls2 L M) (oA:=0) (by decide) (by decide) (At.of_blk (hs.has (b,blk T [v,u]) (by simp))) ?_ ?_ (by rw[hl];exact Step.own hs2) (by rw[hl];exact out_hd hs fun p hp=>mem_append_left _ hp)).mono ?_
 ·intro i hi
  rcases Nat.lt_or_ge 0 i with h | h
  ·obtain rfl:i=1:=by omega
   exact hu
  ·obtain rfl:i=0:=by omega
   exact hv
 ·intro i hi
  unfold ns2
  split <;> assumption
 ·rintro e w' ⟨he,hq⟩
  rw[hl] at hq
  exact⟨he,Step.call hs2 hq⟩
theorem packR_len (s:AS) (r:Int×WS) (of:List (List UInt8)):(packR s r of).1.length≤4194304:=by
 unfold packR
 split
 ·exact Nat.zero_le _
 ·split
  ·assumption
  ·exact Nat.zero_le _
section
variable{wd z:Int}{x:Stup}{v3:Value}{B:BL}
set_option maxHeartbeats 64000000 in
theorem flowFree_spec (w0:World) (hx:x.Ok w0) (hz : -9223372036854775808≤z∧z≤9223372036854775807) (hB:Sl w0 1 v3 B.length (B.map fun t=>t.1)) (hBo:∀t∈B,Sl w0 1 t.1 t.2.length (u8s t.2)∧Room t.1) (hBl:B.length≤9223372036854775807) :
  CP 8 #[.int .i64 wd,.agg x.cells.toArray,.int .i64 z,v3] w0 (Ret0 (.bool true) w0):=by
 have hs:Step [] [] w0 w0:=Step.refl w0
 have hcl:x.cells.length=6:=rfl
 have ob:=hB.form
 obtain⟨mp,mc,rfl⟩:=ob
 by_cases hbad:(wd<1∨32<wd)∨¬(0≤x.cap∧x.cap≤67108864)
 ·refine calls (n:=317) Tryz.func8 rfl rfl rfl ?_
  refine sr<|WL.box (cs:=x.cells) rfl rfl rfl hs (fun b5 w hs=>?_)
  refine wA<|wZ<|cq<|sr<|wE rfl (run_call en15 rfl rfl) (known8_spec _) ?_
  rintro e w ⟨rfl,hq⟩
  refine⟨_,rfl,?_⟩
  replace hs:=hs.callE hq
  refine wN rfl<|wZ<|CW.cond rfl (fun h=>?_) (fun h=>?_)
  ·cases h
  refine ck<|sr<|wm<|wR ty28 rfl hcl hs.a0<|wE rfl (run_call en16 rfl rfl) (made8_bad hbad rfl _) ?_
  rintro e w ⟨rfl,hq⟩
  refine⟨_,rfl,?_⟩
  replace hs:=hs.callE hq
  refine wm<|wx rfl rfl<|wx rfl rfl<|wA<|wA<|wZ<|cq<|sr<|wm<|wN rfl<|wm<|wy<|wm ?_
  refine wy<|wV (run_nilNil u32 rfl rfl)<|pF<|wZ<|CW.cond rfl (fun h=>?_) (fun h=>?_)
  ·refine sr<|wm<|wA<|wZ<|CW.ret ?_
   refine fin_ret1 rfl ?_
   exact⟨rfl,hs.clear⟩
  ·cases h
 have ob:∃k:Nat,wd=k:=⟨wd.toNat,by omega⟩
 obtain⟨k,rfl⟩:=ob
 have ob:∃c:Nat,x.cap=c:=⟨x.cap.toNat,by omega⟩
 obtain⟨c,hc⟩:=ob
 refine calls (n:=317) Tryz.func8 rfl rfl rfl ?_
 refine sr<|WL.box (cs:=x.cells) rfl rfl rfl hs (fun b5 w hs=>?_)
 refine wA<|wZ<|cq<|sr<|wE rfl (run_call en15 rfl rfl) (known8_spec _) ?_
 rintro e w ⟨rfl,hq⟩
 refine⟨_,rfl,?_⟩
 replace hs:=hs.callE hq
 refine wN rfl<|wZ<|CW.cond rfl (fun h=>?_) (fun h=>?_)
 ·cases h
 refine ck<|sr<|wm<|wR ty28 rfl hcl hs.a0<|wE rfl (run_call en16 rfl rfl) (made8_spec (by omega) (by omega) (by omega) hc _ (hx.step0 hs.clear)) ?_
 rintro e w ⟨bw,bp,br,rfl,s,roots,vR,LR,L,R,D,hM,few,hsk,hrl⟩
 refine⟨_,rfl,?_⟩
 have hs2:=Step.call0 hs hM.hs
 replace hs:=Step.perm hs2 perm_u1
 refine wm<|wx rfl rfl<|wx rfl rfl<|wA<|wA<|wZ ?_
 have ok:=hM.ok
 have ob:∃d,rootF roots s.X z=d:=⟨_,rfl⟩
 obtain⟨d,hdE⟩:=ob
 have hd32:=rootF_len (z:=z) hM.r32 ok.len
 rw[hdE] at hd32
 have hzl:(u8s d).length=32:=by rw[u8s,length_map,hd32]
 have ob:∃r,runs s rmG [rootS d] ws0=r:=⟨_,rfl⟩
 obtain⟨r,hr⟩:=ob
 have hr':runs s (rmOf 65536 32 67108864) [rootS d] ws0=r:=hr
 have hrg:=runs_g (s:=s) rmG_ok d
 have hmet:=fun{t:WS} h=>runs_met (s:=s) (rm:=rmG) (t:=t) hd32 h
 have ob:=runs_wkd (s:=s) (rn:=65536) (rd:=32) (rb:=67108864) hd32 rmG_ok
 obtain⟨_,_,_,Wk,_⟩:=ob
 rw[hr'] at Wk
 rw[hr] at hrg hmet
 obtain⟨gf,of,kk,hG⟩:∃gf of kk,r.1=0→Goes (partsM s r.2.m) [d] [] [] gf of kk:=by
  by_cases he:r.1=0
  ·have ob:=(hmet (t:=r.2) (by rw[←he])).goes
   obtain⟨a,b,c,h⟩:=ob
   exact⟨a,b,c,fun _=>h⟩
  ·exact⟨[],[],0,fun h=>absurd h he⟩
 have hroot:∀{w:World}{L1 D1:OL},Step [] (((b5,blk 28 x.cells)::(bw,blk 42 (w8C bp br vR))::LR)++(L1++(R++D1))) w0 w→CP 18 #[pt bw,.int .i64 z] w (Ret0 (.agg (u8s d).toArray) w):=fun {w L1 D1} h=>by
  have h2:=root8_spec (z:=z) (w:=w) (bw:=bw) (bp:=bp) (br:=br) (vR:=vR) (roots:=roots) (At.of_blk (h.has (bw,blk 42 (w8C bp br vR)) (by simp))) (Dgs.own hM.vr (fun p hp=>h.has p (by simp[hp])) hM.r32 (by omega)) hM.rr (fun p hp=>h.has p (by simp[hp])) ok (by omega) hz
  rw[hdE] at h2;exact h2
 have hreach:=fun{w:World} h=>reach_spec (w0:=w) (rn:=65536) (rd:=32) (rb:=67108864) hM.pr ok few (by omega) hd32 rmG_ok h
 have hpack:=fun{w:World}{D1 L1:OL} (hp:PRep bp (s.gotN r.2.g) D1 L1) h=>pack_spec (w0:=w) (rn:=65536) (rd:=32) (rb:=67108864) (gf:=gf) (of:=of) (k:=kk) hp (ok.gotN _) (few.gotN _) (by omega) hd32 rmG_ok (by rw[runs_gotN,hr',partsM_gotN];exact hG) h
 simp only[hr',runs_gotN,packR_gotN,gotN_add] at hreach hpack
 have ob:∃pk,packR s r of=pk:=⟨_,rfl⟩
 obtain⟨pk,hpk⟩:=ob
 simp only[hpk] at hpack
 refine cq<|sr<|wm<|wN rfl<|wm<|wy<|wm<|wy<|wV (run_ptrNil u32 rfl rfl)<|pF<|wZ<|CW.cond rfl (fun h=>?_) (fun h=>?_)
 ·cases h
 refine ck<|sr<|wm<|wm<|wE rfl (run_call en18 rfl rfl) (hroot hs) ?_
 rintro e w ⟨rfl,hq⟩
 refine⟨_,rfl,?_⟩
 replace hs:=hs.callE hq
 refine WL.alloc ty44 rfl hs (fun b11 w hs=>?_)
 refine WL.storeAll ty44 rfl rfl ((hzl)) ((Cells1.u8s _)) hs (by rfl) (fun w hs=>?_)
 refine wZ ?_
 replace hs:Step [] (((b11,blk 44 (u8s d))::(b5,blk 28 x.cells)::(bw,blk 42 (w8C bp br vR))::LR)++(L++(R++D))) w0 w:=hs
 refine cq<|CW.any (A:=fun w=>w.heap[bw]?=some (blk 42 (w8C bp br vR))∧w.heap[b11]?=some (blk 44 (u8s d))) (C:=fun w=>w.heap[bw]?=some (blk 42 (w8C bp br vR))∧w.heap[b11]?=some (blk 44 (u8s d))) 1000000 12 mixedP rfl ?_
 replace hs:=hs.drew
 refine aM 0 rfl<|aN 1 rfl rfl<|aF 2 rfl 0 u42 rfl ty39 rfl<|aL 3 rfl ty39 rfl (fun w hs=>(At.of_blk hs.1).cell (j:=0) rfl)<|aV 4 rfl (fun w hs=>run_loadN ty44 rfl hzl (At.of_blk hs.2))<|AL.one 5 (by kernel_rfl) rfl (⟨hs.has (bw,blk 42 (w8C bp br vR)) (by simp),hs.has (b11,blk 44 (u8s d)) (by simp)⟩) (⟨hs.has (bw,blk 42 (w8C bp br vR)) (by simp),hs.has (b11,blk 44 (u8s d)) (by simp)⟩) ?_
 refine wE rfl (run_call en28 rfl rfl) (great_spec _) ?_
 rintro e w ⟨rfl,hq⟩
 refine⟨_,rfl,?_⟩
 replace hs:=hs.callE hq
 refine wZ<|⟨rfl,?_⟩
 refine AL.one 6 (by kernel_rfl) rfl (⟨hs.has (bw,blk 42 (w8C bp br vR)) (by simp),hs.has (b11,blk 44 (u8s d)) (by simp)⟩) (⟨hs.has (bw,blk 42 (w8C bp br vR)) (by simp),hs.has (b11,blk 44 (u8s d)) (by simp)⟩) ?_
 refine wE rfl (run_call en17 rfl rfl) (hreach (Two.live (A:=_::_::_::LR) hs)) ?_
 rintro e w ⟨vl,Ll,L1,D1,rfl,hP1,hvl,hq1⟩
 refine⟨_,rfl,?_⟩
 replace hs:=Two.putA (A:=_::_::_::LR) hs hq1
 refine wZ<|⟨rfl,?_⟩
 refine aM 7 rfl<|aX 8 rfl rfl rfl<|aX 9 rfl rfl rfl<|aA 10 rfl<|aA 11 rfl<|AL.end (by kernel_rfl) (⟨hs.has (bw,blk 42 (w8C bp br vR)) (by simp),hs.has (b11,blk 44 (u8s d)) (by simp)⟩) (⟨hs.has (bw,blk 42 (w8C bp br vR)) (by simp),hs.has (b11,blk 44 (u8s d)) (by simp)⟩) ?_
 refine cq<|CW.any (A:=fun w=>w.heap[bw]?=some (blk 42 (w8C bp br vR))∧w.heap[b11]?=some (blk 44 (u8s d))) (C:=fun w=>w.heap[bw]?=some (blk 42 (w8C bp br vR))∧w.heap[b11]?=some (blk 44 (u8s d))) 1000000 12 mixedP rfl ?_
 replace hs:=hs.drew
 refine aM 0 rfl<|aN 1 rfl rfl<|aF 2 rfl 0 u42 rfl ty39 rfl<|aL 3 rfl ty39 rfl (fun w hs=>(At.of_blk hs.1).cell (j:=0) rfl)<|aV 4 rfl (fun w hs=>run_loadN ty44 rfl hzl (At.of_blk hs.2))<|AL.one 5 (by kernel_rfl) rfl (⟨hs.has (bw,blk 42 (w8C bp br vR)) (by simp),hs.has (b11,blk 44 (u8s d)) (by simp)⟩) (⟨hs.has (bw,blk 42 (w8C bp br vR)) (by simp),hs.has (b11,blk 44 (u8s d)) (by simp)⟩) ?_
 refine wE rfl (run_call en28 rfl rfl) (great_spec _) ?_
 rintro e w ⟨rfl,hq⟩
 refine⟨_,rfl,?_⟩
 replace hs:=hs.callE hq
 refine wZ<|⟨rfl,?_⟩
 refine AL.one 6 (by kernel_rfl) rfl (⟨hs.has (bw,blk 42 (w8C bp br vR)) (by simp),hs.has (b11,blk 44 (u8s d)) (by simp)⟩) (⟨hs.has (bw,blk 42 (w8C bp br vR)) (by simp),hs.has (b11,blk 44 (u8s d)) (by simp)⟩) ?_
 refine wE rfl (run_call en33 rfl rfl) (hpack hP1 (Two.live (A:=Ll++(_::_::_::LR)) hs)) ?_
 rintro e w ⟨vb,Lb,L2,D2,rfl,hP2,hvb,hq2⟩
 refine⟨_,rfl,?_⟩
 replace hs:=Two.putA (A:=Ll++(_::_::_::LR)) hs hq2
 refine wZ<|⟨rfl,?_⟩
 refine aM 7 rfl<|aX 8 rfl rfl rfl<|aX 9 rfl rfl rfl<|aA 10 rfl<|aA 11 rfl<|AL.end (by kernel_rfl) (⟨hs.has (bw,blk 42 (w8C bp br vR)) (by simp),hs.has (b11,blk 44 (u8s d)) (by simp)⟩) (⟨hs.has (bw,blk 42 (w8C bp br vR)) (by simp),hs.has (b11,blk 44 (u8s d)) (by simp)⟩) ?_
 by_cases he:r.1≠0
 ·have hp2:pk.2=r.1:=by rw[←hpk,packR,if_pos he]
  refine cq<|sr<|wm<|wV (run_bT (run_neq rfl rfl) (by exact he))<|wZ<|CW.cond rfl (fun h=>?_) (fun h=>?_)
  ·refine sr<|wm<|wm<|wV (run_bT (run_eql rfl rfl) (by exact hp2))<|wA<|wZ<|CW.ret ?_
   refine fin_ret1 rfl ?_
   exact⟨rfl,hs.clear⟩
  ·cases h
 replace he:r.1=0:=by simpa using he
 refine cq<|sr<|wm<|wV (run_bF (run_neq rfl rfl) (by exact fun h=>h he))<|wZ<|CW.cond rfl (fun h=>?_) (fun h=>?_)
 ·cases h
 have ob:∃A0,((b11,blk 44 (u8s d))::(b5,blk 28 x.cells)::(bw,blk 42 (w8C bp br vR))::LR)=A0:=⟨_,rfl⟩
 obtain⟨A0,hA0⟩:=ob
 have hbw0:(bw,blk 42 (w8C bp br vR))∈A0:=by rw[←hA0];simp
 have hb11:(b11,blk 44 (u8s d))∈A0:=by rw[←hA0];simp
 rw[hA0] at hs
 have ob:∃A,Lb++(Ll++A0)=A:=⟨_,rfl⟩
 obtain⟨A,hA⟩:=ob
 have hbwA:(bw,blk 42 (w8C bp br vR))∈A:=by rw[←hA];simp[hbw0]
 have hb11A:(b11,blk 44 (u8s d))∈A:=by rw[←hA];simp[hb11]
 have hLlA:∀p∈Ll,p∈A:=fun p hp=>by rw[←hA];simp[hp]
 have hLbA:∀p∈Lb,p∈A:=fun p hp=>by rw[←hA];simp[hp]
 rw[hA] at hs
 have ob:∃D0,D2++(D1++D)=D0:=⟨_,rfl⟩
 obtain⟨D0,hD0⟩:=ob
 rw[hD0] at hs hP2
 have ob:∃l0,reachL r=l0:=⟨_,rfl⟩
 obtain⟨l0,hl0⟩:=ob
 rw[hl0] at hvl
 have hl0':ordM r.2.m=l0:=by rw[←hl0,reachL,if_pos he]
 have hmemM:∀q,q∈l0↔q∈r.2.m.map (·.1):=fun q=>by rw[←hl0',ordM_mem]
 have hml:=Wk.len he
 have hl0l:l0.length≤65536:=by rw[←hl0'];exact Nat.le_trans (ordM_len _) hml
 have hl032:∀q∈l0,q.length=32:=fun q hq=>by
  have ob:=mem_map.1 ((hmemM q).1 hq)
  obtain⟨p,hp,rfl⟩:=ob
  exact Wk.m32 he p hp
 have hmt:=hmet (t:=r.2) (by rw[←he])
 have hl0p:0<l0.length:=length_pos_of_mem (by rw[←hl0'];exact mem_of_getElem? hmt.head)
 have hSt0:Stay (r.2.m.map (·.1)) s (s.gotN (r.2.g+r.2.g)):=(Stay.rfl' fun q hq=>by
  have ob:=mem_map.1 hq
  obtain⟨p,hp,rfl⟩:=ob
  exact hmt.got p hp).got _
 have hofM:∀q∈of,q∈r.2.m.map (·.1):=fun q hq=>(hmemM q).1 (by rw[←hl0'];exact((goes_met (by rw[hr,←he]) hmt (hG he)).2.1 q).1 hq)
 have hul:=used_len s.X
 have hou:=ok.used
 have hXl:s.X.length≤2097152:=by omega
 have ob:=hM.rr.look ok.len
 obtain⟨ra,rc,_,hlk⟩:=ob
 have hpkl:pk.1.length≤4194304:=by rw[←hpk];exact packR_len s r of
 have ob:=hvl.form
 obtain⟨la,lc,hle⟩:=ob
 clear hs2 hreach hpack hroot hP1
 refine ck<|CW.seqM (fun f w=>∃(t:AS) (Lc Dc:OL),Stay (r.2.m.map (·.1)) s t∧t.Ok∧t.Few 104000000∧PRep bp t (Dc++D0) Lc∧Step [] (A++(Lc++(R++(Dc++D0)))) w0 w∧Holds f [(3,.slice mp B.length mc),(9,pt bw),(11,pt b11),(12,vl),(14,vb),(15,.int .i64 pk.2)]) ?_ ?_
 ·refine sr<|wA<|wZ<|cB<|CW.loop (fun zz f w'=>∃(i:Nat) (t:AS) (Lc Dc:OL),i≤s.X.length∧zz=s.X.length - i∧Stay (r.2.m.map (·.1)) s t∧t.Ok∧t.Few (101000000+i)∧PRep bp t (Dc++D0) Lc∧Step [] (A++(Lc++(R++(Dc++D0)))) w0 w'∧Holds f [(3,.slice mp B.length mc),(9,pt bw),(11,pt b11),(12,vl),(14,vb),(15,.int .i64 pk.2),(16,.int .i64 (i:Nat))]) (m:=s.X.length) ?_ ?_
  ·exact⟨0,_,L2,[],Nat.zero_le _,rfl,hSt0,ok.gotN _,(few.gotN _).mono (by omega),hP2,hs,rfl,rfl,rfl,rfl,rfl,rfl,rfl,trivial⟩
  clear hs hP2
  rintro zz f w ⟨i,t,Lc,Dc,hi,rfl,hSt,okt,fewt,hP,hs,hf⟩
  have ob:=hf.chain
  obtain⟨g,rfl⟩:=ob
  have hwc:∀{w:World}{Y:OL},Step [] (A++Y) w0 w→At w bw 0 (w8C bp br vR):=fun h=>At.of_blk (h.has (bw,blk 42 (w8C bp br vR)) (mem_append_left _ hbwA))
  by_cases hlt:i<s.X.length
  ·have ob:∃b,s.X[i]?=some b:=⟨_,getElem?_eq_getElem hlt⟩
   obtain⟨b,hb⟩:=ob
   have hbl:=ok.len b (mem_of_getElem? hb)
   have hdl:(u8s b.d).length=32:=by rw[u8s,length_map,hbl]
   have hRw:∀p∈R,w.heap[p.1]?=some p.2:=fun p hp=>hs.has p (by simp[hp])
   have ob:=(hlk hRw).2 i b hb
   obtain⟨bx,hbe,hrw⟩:=ob
   subst hbe
   refine cq<|sr<|wm<|wm<|wn rfl<|wF 1 u42 rfl ty40 rfl<|wl ty40 rfl ((hwc hs).cell (j:=1) rfl)<|wn rfl<|wF 3 u54 rfl ty52 rfl<|wl ty52 rfl ((hlk hRw).1.cell (j:=3) rfl)<|wL u52 rfl<|lT<|wZ ?_
   refine CW.cond rfl (fun h=>?_) (fun h=>?_)
   ·refine ck<|CW.seqM (fun f w=>∃(t:AS) (Lc Dc:OL),Stay (r.2.m.map (·.1)) s t∧t.Ok∧t.Few (101000000+(i+1))∧PRep bp t (Dc++D0) Lc∧Step [] (A++(Lc++(R++(Dc++D0)))) w0 w∧Holds f [(3,.slice mp B.length mc),(9,pt bw),(11,pt b11),(12,vl),(14,vb),(15,.int .i64 pk.2),(16,.int .i64 (i:Nat))]) ?_ ?_
    ·have hhas:=fun{w1:World}{Y:OL} (h:Step [] (A++Y) w0 w1)=>hasL8_spec (w0:=w1) (Dgs.own hvl (fun p hp=>h.has p (mem_append_left _ (hLlA p hp))) hl032 (by omega)) hbl
     refine cB<|sr<|wm<|wn rfl<|wF 1 u42 rfl ty40 rfl<|wl ty40 rfl ((hwc hs).cell (j:=1) rfl)<|wn rfl<|wF 3 u54 rfl ty52 rfl<|wl ty52 rfl ((hlk hRw).1.cell (j:=3) rfl)<|wm<|wI u52 ty80 rfl rfl<|wF 0 u80 rfl ty44 rfl<|wR ty44 rfl hdl hrw ?_
     refine WL.alloc ty44 rfl hs (fun b17 w hs=>?_)
     refine WL.storeAll ty44 rfl rfl ((hdl)) ((Cells1.u8s _)) hs (by rfl) (fun w hs=>?_)
     refine wZ ?_
     replace hs:Step [] (((b17,blk 44 (u8s b.d))::A)++(Lc++(R++(Dc++D0)))) w0 w:=hs
     by_cases hm:b.d∈l0
     ·rw[decide_eq_true hm] at hhas
      refine cq<|sr<|wm<|wR ty44 rfl hdl hs.a0<|wE rfl (run_call en32 rfl rfl) (hhas hs.tail) ?_
      rintro e w ⟨rfl,hq⟩
      refine⟨_,rfl,?_⟩
      replace hs:=hs.callE hq
      refine wZ<|CW.cond rfl (fun h=>?_) (fun h=>?_)
      ·refine CW.exit ?_
       exact⟨rfl,t,Lc,Dc,hSt,okt,fewt.mono (by omega),hP,hs.tail,rfl,rfl,rfl,rfl,rfl,rfl,rfl,trivial⟩
      ·cases h
     have hnm:b.d∉r.2.m.map (·.1):=fun h=>hm ((hmemM _).2 h)
     rw[decide_eq_false hm] at hhas
     refine cq<|sr<|wm<|wR ty44 rfl hdl hs.a0<|wE rfl (run_call en32 rfl rfl) (hhas hs.tail) ?_
     rintro e w ⟨rfl,hq⟩
     refine⟨_,rfl,?_⟩
     replace hs:=hs.callE hq
     refine wZ<|CW.cond rfl (fun h=>?_) (fun h=>?_)
     ·cases h
     by_cases hev:i % 2=0
     ·refine ck<|sr<|wm<|wV (run_remN (n:=i) (m:=2) rfl rfl (by decide))<|wV (run_bT (run_eql rfl rfl) (by exact congrArg Int.ofNat hev))<|wZ<|CW.cond rfl (fun h=>?_) (fun h=>?_)
      ·have hevc:=fun{w1:World} h=>evict_abs (w0:=w1) hP okt h hbl
       refine CW.any (A:=fun w=>w.heap[bw]?=some (blk 42 (w8C bp br vR))∧w.heap[b17]?=some (blk 44 (u8s b.d))) (C:=fun w=>w.heap[bw]?=some (blk 42 (w8C bp br vR))∧w.heap[b17]?=some (blk 44 (u8s b.d))) 1000000 6 mixedP rfl ?_
       replace hs:=hs.drew
       refine aM 0 rfl<|aN 1 rfl rfl<|aF 2 rfl 0 u42 rfl ty39 rfl<|aL 3 rfl ty39 rfl (fun w hs=>(At.of_blk hs.1).cell (j:=0) rfl)<|aV 4 rfl (fun w hs=>run_loadN ty44 rfl hdl (At.of_blk hs.2))<|AL.one 5 (by kernel_rfl) rfl (⟨hs.has (bw,blk 42 (w8C bp br vR)) (by simp[hbwA]),hs.has (b17,blk 44 (u8s b.d)) (by simp)⟩) (⟨hs.has (bw,blk 42 (w8C bp br vR)) (by simp[hbwA]),hs.has (b17,blk 44 (u8s b.d)) (by simp)⟩) ?_
       refine wE rfl (run_call en34 rfl rfl) (hevc (Two.live (A:=_::A) hs)) ?_
       rintro e w ⟨L1,rfl,hP1,hq⟩
       refine⟨_,rfl,?_⟩
       replace hs:=Two.set (A:=_::A) hs hq
       refine wZ<|⟨rfl,?_⟩
       refine AL.end (by kernel_rfl) (⟨hs.has (bw,blk 42 (w8C bp br vR)) (by simp[hbwA]),hs.has (b17,blk 44 (u8s b.d)) (by simp)⟩) (⟨hs.has (bw,blk 42 (w8C bp br vR)) (by simp[hbwA]),hs.has (b17,blk 44 (u8s b.d)) (by simp)⟩) ?_
       exact⟨rfl,t.evict b.d,L1,Dc,hSt.evict hnm,okt.del b.d,(fewt.evict b.d).mono (by omega),hP1,hs.tail,rfl,rfl,rfl,rfl,rfl,rfl,rfl,trivial⟩
      ·cases h
     ·refine ck<|sr<|wm<|wV (run_remN (n:=i) (m:=2) rfl rfl (by decide))<|wV (run_bF (run_eql rfl rfl) (by exact fun h=>hev (Int.ofNat.inj h)))<|wZ<|CW.cond rfl (fun h=>?_) (fun h=>?_)
      ·cases h
      refine CW.any (A:=fun w=>w.heap[bw]?=some (blk 42 (w8C bp br vR))∧w.heap[b17]?=some (blk 44 (u8s b.d))) (C:=fun w=>w.heap[bw]?=some (blk 42 (w8C bp br vR))∧w.heap[b17]?=some (blk 44 (u8s b.d))) 1000000 7 mixedP rfl ?_
      replace hs:=hs.drew
      refine aM 0 rfl<|aN 1 rfl rfl<|aF 2 rfl 0 u42 rfl ty39 rfl<|aL 3 rfl ty39 rfl (fun w hs=>(At.of_blk hs.1).cell (j:=0) rfl)<|aV 4 rfl (fun w hs=>run_loadN ty44 rfl hdl (At.of_blk hs.2))<|AL.one 5 (by kernel_rfl) rfl (⟨hs.has (bw,blk 42 (w8C bp br vR)) (by simp[hbwA]),hs.has (b17,blk 44 (u8s b.d)) (by simp)⟩) (⟨hs.has (bw,blk 42 (w8C bp br vR)) (by simp[hbwA]),hs.has (b17,blk 44 (u8s b.d)) (by simp)⟩) ?_
      refine WL.buildSlice (cs:=(u8s [1,0])) u76 ty5 rfl (by decide) rfl (by rfl) rfl hs (fun b116 w hs=>?_)
      refine wZ<|⟨rfl,?_⟩
      refine AL.one 6 (by kernel_rfl) rfl (⟨hs.has (bw,blk 42 (w8C bp br vR)) (by simp[hbwA]),hs.has (b17,blk 44 (u8s b.d)) (by simp)⟩) (⟨hs.has (bw,blk 42 (w8C bp br vR)) (by simp[hbwA]),hs.has (b17,blk 44 (u8s b.d)) (by simp)⟩) ?_
      refine wE rfl (run_call en35 rfl rfl) (plant_abs (y:=[1,0]) hP okt fewt (by omega) (Two.live (A:=_::_::A) hs) hbl (Sl.own1 hs rfl) (out_blk hs fun p hp=>by simp[hp]) (by decide)) ?_
      rintro e w ⟨L1,D1,rfl,hP1,hq⟩
      refine⟨_,rfl,?_⟩
      replace hs:=Two.put (A:=_::_::A) hs hq
      refine wZ<|⟨rfl,?_⟩
      refine AL.end (by kernel_rfl) (⟨hs.has (bw,blk 42 (w8C bp br vR)) (by simp[hbwA]),hs.has (b17,blk 44 (u8s b.d)) (by simp)⟩) (⟨hs.has (bw,blk 42 (w8C bp br vR)) (by simp[hbwA]),hs.has (b17,blk 44 (u8s b.d)) (by simp)⟩) ?_
      exact⟨rfl,(t.plant b.d [1,0]).2,L1,D1++Dc,hSt.plant okt hnm,okt.plant hbl _,(fewt.plant b.d _).mono (by omega),by rw[append_assoc];exact hP1,by rw[append_assoc];exact hs.tail.tail,rfl,rfl,rfl,rfl,rfl,rfl,rfl,trivial⟩
    clear hs hP hSt okt fewt hRw hrw
    rintro f w ⟨t,Lc,Dc,hSt,okt,fewt,hP,hs,hf⟩
    have ob:=hf.chain
    obtain⟨g,rfl⟩:=ob
    refine cr<|wm<|wP ((i+1:Nat):Int)<|wA<|wZ<|(show _∧_ from⟨rfl,_,?_,i+1,t,Lc,Dc,hlt,rfl,hSt,okt,fewt,hP,hs,rfl,rfl,rfl,rfl,rfl,rfl,rfl,trivial⟩)
    omega
   ·cases h
  ·obtain rfl:i=s.X.length:=by omega
   refine cq<|sr<|wm<|wm<|wn rfl<|wF 1 u42 rfl ty40 rfl<|wl ty40 rfl ((hwc hs).cell (j:=1) rfl)<|wn rfl<|wF 3 u54 rfl ty52 rfl<|wl ty52 rfl ((hlk (fun p hp=>hs.has p (by simp[hp]))).1.cell (j:=3) rfl)<|wL u52 rfl<|lF<|wZ ?_
   refine CW.cond rfl (fun h=>?_) (fun h=>?_)
   ·cases h
   refine CW.exit ?_
   exact⟨rfl,t,Lc,Dc,hSt,okt,fewt.mono (by omega),hP,hs,rfl,rfl,rfl,rfl,rfl,rfl,trivial⟩
 clear hs hP2
 rintro f w ⟨t,Lc,Dc,hSt,okt,fewt,hP,hs,hf⟩
 have ob:=hf.chain
 obtain⟨g,rfl⟩:=ob
 refine CW.seqM (fun f w=>∃(t:AS) (Lc Dc:OL),Stay (r.2.m.map (·.1)) s t∧t.Ok∧t.Few 105000000∧PRep bp t (Dc++D0) Lc∧Step [] (A++(Lc++(R++(Dc++D0)))) w0 w∧Holds f [(9,pt bw),(11,pt b11),(12,vl),(14,vb),(15,.int .i64 pk.2)]) ?_ ?_
 ·refine sr<|wA<|wZ<|cB<|CW.loop (fun zz f w'=>∃(i:Nat) (t:AS) (Lc Dc:OL),i≤20∧zz=20 - i∧Stay (r.2.m.map (·.1)) s t∧t.Ok∧t.Few (104000000+i)∧PRep bp t (Dc++D0) Lc∧Step [] (A++(Lc++(R++(Dc++D0)))) w0 w'∧Holds f [(3,.slice mp B.length mc),(9,pt bw),(11,pt b11),(12,vl),(14,vb),(15,.int .i64 pk.2),(18,.int .i64 (i:Nat))]) (m:=20) ?_ ?_
  ·exact⟨0,t,Lc,Dc,Nat.zero_le _,rfl,hSt,okt,fewt,hP,hs,rfl,rfl,rfl,rfl,rfl,rfl,rfl,trivial⟩
  clear hs hP hSt okt fewt
  rintro zz f w ⟨i,t,Lc,Dc,hi,rfl,hSt,okt,fewt,hP,hs,hf⟩
  have ob:=hf.chain
  obtain⟨g,rfl⟩:=ob
  by_cases hlt:i<B.length∧i<20
  ·obtain⟨hl1,hl20⟩:=hlt
   have ob:∃tb,B[i]?=some tb:=⟨_,getElem?_eq_getElem hl1⟩
   obtain⟨tb,htb⟩:=ob
   obtain⟨x1,y1⟩:=tb
   have hyo:=hBo _ (mem_of_getElem? htb)
   simp only at hyo
   have ob:=sl_form hyo.1
   obtain⟨a1,c1,he1⟩:=ob
   subst he1
   have ob:=sl_at1 (c:=fun t:Value×U8=>t.1) hB htb
   obtain⟨mb,mo,mc',hme,hmc⟩:=ob
   cases hme
   refine cq<|sr<|wm<|wm<|wL u24 rfl<|lT<|wm<|wy<|wm<|wy<|lT<|pT<|wZ ?_
   refine CW.cond rfl (fun h=>?_) (fun h=>?_)
   ·refine ck<|CW.seqM (fun f w=>∃(t:AS) (Lc Dc:OL),Stay (r.2.m.map (·.1)) s t∧t.Ok∧t.Few (104000000+(i+1))∧PRep bp t (Dc++D0) Lc∧Step [] (A++(Lc++(R++(Dc++D0)))) w0 w∧Holds f [(3,.slice (some ⟨mb,mo,none⟩) B.length mc),(9,pt bw),(11,pt b11),(12,vl),(14,vb),(15,.int .i64 pk.2),(18,.int .i64 (i:Nat))]) ?_ ?_
    ·by_cases hsm:y1.length<65536
     ·refine cB<|sr<|wm<|wm<|wI u24 ty76 rfl rfl<|wl ty76 rfl (keepCell hmc hs.clear)<|wL u76 rfl<|lT<|wZ<|CW.cond rfl (fun h=>?_) (fun h=>?_)
      ·skip
       refine CW.any (A:=fun w=>w.heap[bw]?=some (blk 42 (w8C bp br vR))∧Step [] [] w0 w) (C:=fun w=>w.heap[bw]?=some (blk 42 (w8C bp br vR))∧Step [] [] w0 w) 1000000 9 mixedP rfl ?_
       replace hs:=hs.drew
       refine aM 0 rfl<|aN 1 rfl rfl<|aF 2 rfl 0 u42 rfl ty39 rfl<|aL 3 rfl ty39 rfl (fun w hs=>(At.of_blk hs.1).cell (j:=0) rfl)<|aM 4 rfl<|aM 5 rfl<|aV 6 rfl (fun w hs=>run_ixSlN u24 ty76 rfl rfl (by omega))<|aL 7 rfl ty76 rfl (fun w hs=>keepCell hmc hs.2)<|AL.one 8 (by kernel_rfl) rfl (⟨hs.has (bw,blk 42 (w8C bp br vR)) (by simp[hbwA]),hs.clear⟩) (⟨hs.has (bw,blk 42 (w8C bp br vR)) (by simp[hbwA]),hs.clear⟩) ?_
       refine wE rfl (run_call en36 rfl rfl) (put_abs hP okt fewt (by omega) (Two.live (A:=A) hs) (hyo.1.step0 hs.clear) hyo.2 (OutE.new hs hyo.1 (.inr (outside_nil _)) fun p hp=>by simp[hp]) (by omega)) ?_
       rintro e w ⟨L1,D1,rfl,hP1,hq⟩
       refine⟨_,rfl,?_⟩
       replace hs:=Two.put (A:=A) hs hq
       refine wZ<|⟨rfl,?_⟩
       refine AL.end (by kernel_rfl) (⟨hs.has (bw,blk 42 (w8C bp br vR)) (by simp[hbwA]),hs.clear⟩) (⟨hs.has (bw,blk 42 (w8C bp br vR)) (by simp[hbwA]),hs.clear⟩) ?_
       exact⟨rfl,(t.put y1).2.2,L1,D1++Dc,hSt.put okt,okt.put _,(fewt.put y1).mono (by omega),by rw[append_assoc];exact hP1,by rw[append_assoc];exact hs,rfl,rfl,rfl,rfl,rfl,rfl,rfl,trivial⟩
      ·cases h
     ·refine cB<|sr<|wm<|wm<|wI u24 ty76 rfl rfl<|wl ty76 rfl (keepCell hmc hs.clear)<|wL u76 rfl<|lF<|wZ<|CW.cond rfl (fun h=>?_) (fun h=>?_)
      ·cases h
      refine ck ?_
      exact⟨rfl,t,Lc,Dc,hSt,okt,fewt.mono (by omega),hP,hs,rfl,rfl,rfl,rfl,rfl,rfl,rfl,trivial⟩
    clear hs hP hSt okt fewt
    rintro f w ⟨t,Lc,Dc,hSt,okt,fewt,hP,hs,hf⟩
    have ob:=hf.chain
    obtain⟨g,rfl⟩:=ob
    refine cr<|wm<|wP ((i+1:Nat):Int)<|wA<|wZ<|(show _∧_ from⟨rfl,_,?_,i+1,t,Lc,Dc,by omega,rfl,hSt,okt,fewt,hP,hs,rfl,rfl,rfl,rfl,rfl,rfl,rfl,trivial⟩)
    omega
   ·cases h
  ·by_cases hl1:i<B.length
   ·refine cq<|sr<|wm<|wm<|wL u24 rfl<|lT<|wm<|wy<|wm<|wy<|lF<|pT<|wZ ?_
    refine CW.cond rfl (fun h=>?_) (fun h=>?_)
    ·cases h
    refine CW.exit ?_
    exact⟨rfl,t,Lc,Dc,hSt,okt,fewt.mono (by omega),hP,hs,rfl,rfl,rfl,rfl,rfl,trivial⟩
   ·refine cq<|sr<|wm<|wm<|wL u24 rfl<|lF<|wm<|wz<|wz<|pF<|wZ<|CW.cond rfl (fun h=>?_) (fun h=>?_)
    ·cases h
    refine CW.exit ?_
    exact⟨rfl,t,Lc,Dc,hSt,okt,fewt.mono (by omega),hP,hs,rfl,rfl,rfl,rfl,rfl,trivial⟩
 clear hs hP hSt okt fewt
 rintro f w ⟨t,Lc,Dc,hSt,okt,fewt,hP,hs,hf⟩
 rw[hle] at hf
 have ob:=hf.chain
 obtain⟨g,rfl⟩:=ob
 rw[hle] at hvl
 have hrt:runs t (rmOf 65536 32 67108864) [rootS d] ws0=r:=by
  have h:=hSt.runs (rm:=rmG) (d:=d) (by rw[hr];exact he) (by rw[hr])
  rw[hr] at h;exact h
 have hrtG:runs t rmG [rootS d] ws0=r:=hrt
 have hpt:packR t r of=pk:=by rw[hSt.packR hofM,hpk]
 have hGt:r.1=0→Goes (partsM t r.2.m) [d] [] [] gf of kk:=fun h=>by rw[hSt.parts];exact hG h
 have hreach:=fun{w:World}{G:Nat}{D1 L1:OL} (hG1:G≤1000000) (hp:PRep bp (t.gotN G) D1 L1) h=>reach_spec (w0:=w) (rn:=65536) (rd:=32) (rb:=67108864) hp (okt.gotN G) (fewt.gotN G) (by omega) hd32 rmG_ok h
 have hpack:=fun{w:World}{G:Nat}{D1 L1:OL} (hG1:G≤1000000) (hp:PRep bp (t.gotN G) D1 L1) h=>pack_spec (w0:=w) (rn:=65536) (rd:=32) (rb:=67108864) (gf:=gf) (of:=of) (k:=kk) hp (okt.gotN G) (fewt.gotN G) (by omega) hd32 rmG_ok (by rw[runs_gotN,hrt,partsM_gotN];exact hGt) h
 simp only[runs_gotN,hrt,gotN_add,hl0,packR_gotN,hpt] at hreach hpack
 refine cq<|CW.any (A:=fun w=>w.heap[bw]?=some (blk 42 (w8C bp br vR))∧w.heap[b11]?=some (blk 44 (u8s d))) (C:=fun w=>w.heap[bw]?=some (blk 42 (w8C bp br vR))∧w.heap[b11]?=some (blk 44 (u8s d))) 1000000 12 mixedP rfl ?_
 replace hs:=hs.drew
 refine aM 0 rfl<|aN 1 rfl rfl<|aF 2 rfl 0 u42 rfl ty39 rfl<|aL 3 rfl ty39 rfl (fun w hs=>(At.of_blk hs.1).cell (j:=0) rfl)<|aV 4 rfl (fun w hs=>run_loadN ty44 rfl hzl (At.of_blk hs.2))<|AL.one 5 (by kernel_rfl) rfl (⟨hs.has (bw,blk 42 (w8C bp br vR)) (by simp[hbwA]),hs.has (b11,blk 44 (u8s d)) (by simp[hb11A])⟩) (⟨hs.has (bw,blk 42 (w8C bp br vR)) (by simp[hbwA]),hs.has (b11,blk 44 (u8s d)) (by simp[hb11A])⟩) ?_
 refine wE rfl (run_call en28 rfl rfl) (great_spec _) ?_
 rintro e w ⟨rfl,hq⟩
 refine⟨_,rfl,?_⟩
 replace hs:=hs.callE hq
 refine wZ<|⟨rfl,?_⟩
 refine AL.one 6 (by kernel_rfl) rfl (⟨hs.has (bw,blk 42 (w8C bp br vR)) (by simp[hbwA]),hs.has (b11,blk 44 (u8s d)) (by simp[hb11A])⟩) (⟨hs.has (bw,blk 42 (w8C bp br vR)) (by simp[hbwA]),hs.has (b11,blk 44 (u8s d)) (by simp[hb11A])⟩) ?_
 refine wE rfl (run_call en17 rfl rfl) (hreach (G:=0) (by omega) hP (Two.live (A:=A) hs)) ?_
 rintro e w ⟨vm,Lm,L3,D3,rfl,hP3,hvm,hq3⟩
 refine⟨_,rfl,?_⟩
 replace hs:=Two.putA (A:=A) hs hq3
 refine wZ<|⟨rfl,?_⟩
 refine aM 7 rfl<|aX 8 rfl rfl rfl<|aX 9 rfl rfl rfl<|aA 10 rfl<|aA 11 rfl<|AL.end (by kernel_rfl) (⟨hs.has (bw,blk 42 (w8C bp br vR)) (by simp[hbwA]),hs.has (b11,blk 44 (u8s d)) (by simp[hb11A])⟩) (⟨hs.has (bw,blk 42 (w8C bp br vR)) (by simp[hbwA]),hs.has (b11,blk 44 (u8s d)) (by simp[hb11A])⟩) ?_
 refine cq<|CW.any (A:=fun w=>w.heap[bw]?=some (blk 42 (w8C bp br vR))∧w.heap[b11]?=some (blk 44 (u8s d))) (C:=fun w=>w.heap[bw]?=some (blk 42 (w8C bp br vR))∧w.heap[b11]?=some (blk 44 (u8s d))) 1000000 12 mixedP rfl ?_
 replace hs:=hs.drew
 refine aM 0 rfl<|aN 1 rfl rfl<|aF 2 rfl 0 u42 rfl ty39 rfl<|aL 3 rfl ty39 rfl (fun w hs=>(At.of_blk hs.1).cell (j:=0) rfl)<|aV 4 rfl (fun w hs=>run_loadN ty44 rfl hzl (At.of_blk hs.2))<|AL.one 5 (by kernel_rfl) rfl (⟨hs.has (bw,blk 42 (w8C bp br vR)) (by simp[hbwA]),hs.has (b11,blk 44 (u8s d)) (by simp[hb11A])⟩) (⟨hs.has (bw,blk 42 (w8C bp br vR)) (by simp[hbwA]),hs.has (b11,blk 44 (u8s d)) (by simp[hb11A])⟩) ?_
 refine wE rfl (run_call en28 rfl rfl) (great_spec _) ?_
 rintro e w ⟨rfl,hq⟩
 refine⟨_,rfl,?_⟩
 replace hs:=hs.callE hq
 refine wZ<|⟨rfl,?_⟩
 refine AL.one 6 (by kernel_rfl) rfl (⟨hs.has (bw,blk 42 (w8C bp br vR)) (by simp[hbwA]),hs.has (b11,blk 44 (u8s d)) (by simp[hb11A])⟩) (⟨hs.has (bw,blk 42 (w8C bp br vR)) (by simp[hbwA]),hs.has (b11,blk 44 (u8s d)) (by simp[hb11A])⟩) ?_
 refine wE rfl (run_call en17 rfl rfl) (hreach (by omega) hP3 (Two.live (A:=Lm++A) hs)) ?_
 rintro e w ⟨vn,Ln,L4,D4,rfl,hP4,hvn,hq4⟩
 refine⟨_,rfl,?_⟩
 replace hs:=Two.putA (A:=Lm++A) hs hq4
 refine wZ<|⟨rfl,?_⟩
 refine aM 7 rfl<|aX 8 rfl rfl rfl<|aX 9 rfl rfl rfl<|aA 10 rfl<|aA 11 rfl<|AL.end (by kernel_rfl) (⟨hs.has (bw,blk 42 (w8C bp br vR)) (by simp[hbwA]),hs.has (b11,blk 44 (u8s d)) (by simp[hb11A])⟩) (⟨hs.has (bw,blk 42 (w8C bp br vR)) (by simp[hbwA]),hs.has (b11,blk 44 (u8s d)) (by simp[hb11A])⟩) ?_
 refine cq<|CW.any (A:=fun w=>w.heap[bw]?=some (blk 42 (w8C bp br vR))∧w.heap[b11]?=some (blk 44 (u8s d))) (C:=fun w=>w.heap[bw]?=some (blk 42 (w8C bp br vR))∧w.heap[b11]?=some (blk 44 (u8s d))) 1000000 12 mixedP rfl ?_
 replace hs:=hs.drew
 refine aM 0 rfl<|aN 1 rfl rfl<|aF 2 rfl 0 u42 rfl ty39 rfl<|aL 3 rfl ty39 rfl (fun w hs=>(At.of_blk hs.1).cell (j:=0) rfl)<|aV 4 rfl (fun w hs=>run_loadN ty44 rfl hzl (At.of_blk hs.2))<|AL.one 5 (by kernel_rfl) rfl (⟨hs.has (bw,blk 42 (w8C bp br vR)) (by simp[hbwA]),hs.has (b11,blk 44 (u8s d)) (by simp[hb11A])⟩) (⟨hs.has (bw,blk 42 (w8C bp br vR)) (by simp[hbwA]),hs.has (b11,blk 44 (u8s d)) (by simp[hb11A])⟩) ?_
 refine wE rfl (run_call en28 rfl rfl) (great_spec _) ?_
 rintro e w ⟨rfl,hq⟩
 refine⟨_,rfl,?_⟩
 replace hs:=hs.callE hq
 refine wZ<|⟨rfl,?_⟩
 refine AL.one 6 (by kernel_rfl) rfl (⟨hs.has (bw,blk 42 (w8C bp br vR)) (by simp[hbwA]),hs.has (b11,blk 44 (u8s d)) (by simp[hb11A])⟩) (⟨hs.has (bw,blk 42 (w8C bp br vR)) (by simp[hbwA]),hs.has (b11,blk 44 (u8s d)) (by simp[hb11A])⟩) ?_
 refine wE rfl (run_call en33 rfl rfl) (hpack (by omega) hP4 (Two.live (A:=Ln++(Lm++A)) hs)) ?_
 rintro e w ⟨vk,Lk,L5,D5,rfl,hP5,hvk,hq5⟩
 refine⟨_,rfl,?_⟩
 replace hs:=Two.putA (A:=Ln++(Lm++A)) hs hq5
 refine wZ<|⟨rfl,?_⟩
 refine aM 7 rfl<|aX 8 rfl rfl rfl<|aX 9 rfl rfl rfl<|aA 10 rfl<|aA 11 rfl<|AL.end (by kernel_rfl) (⟨hs.has (bw,blk 42 (w8C bp br vR)) (by simp[hbwA]),hs.has (b11,blk 44 (u8s d)) (by simp[hb11A])⟩) (⟨hs.has (bw,blk 42 (w8C bp br vR)) (by simp[hbwA]),hs.has (b11,blk 44 (u8s d)) (by simp[hb11A])⟩) ?_
 have ob:∃D6,D5++(D4++(D3++(Dc++D0)))=D6:=⟨_,rfl⟩
 obtain⟨D6,hD6⟩:=ob
 rw[hD6] at hs hP5
 have hsm1:∀{w1:World}{Y:OL},Step [] ((Lk++(Ln++(Lm++A)))++Y) w0 w1→CP 20 #[.slice la l0.length lc,vm] w1 (Ret0 (.bool true) w1):=fun {w1 Y} h=>by
  have h2:=sameD_spec (w0:=w1) (Dgs.own hvl (fun p hp=>h.has p (by simp[hLlA p hp])) hl032 (by omega)) (Dgs.own hvm (fun p hp=>h.has p (by simp[hp])) hl032 (by omega))
  rw[decide_eq_true rfl] at h2;exact h2
 have hsm2:∀{w1:World}{Y:OL},Step [] ((Lk++(Ln++(Lm++A)))++Y) w0 w1→CP 20 #[.slice la l0.length lc,vn] w1 (Ret0 (.bool true) w1):=fun {w1 Y} h=>by
  have h2:=sameD_spec (w0:=w1) (Dgs.own hvl (fun p hp=>h.has p (by simp[hLlA p hp])) hl032 (by omega)) (Dgs.own hvn (fun p hp=>h.has p (by simp[hp])) hl032 (by omega))
  rw[decide_eq_true rfl] at h2;exact h2
 refine cq<|sr<|wm<|wV (run_bF (run_neq rfl rfl) (by exact fun h=>h he))<|wm<|wy<|wm<|wy<|wm<|wy<|wV (run_bF (run_neq rfl rfl) (by exact fun h=>h rfl))<|pF<|wm ?_
 refine wy<|wm<|wy<|wm<|wy<|wE rfl (run_call en20 rfl rfl) (hsm1 hs) ?_
 rintro e w ⟨rfl,hq⟩
 refine⟨_,rfl,?_⟩
 replace hs:=hs.callE hq
 refine wy ?_;(first | refine WL.val rfl (run_notB rfl) ?_ | refine WL.val rfl (run_not rfl) ?_)
 refine pF<|wm<|wy<|wm<|wy<|wm<|wy<|wE rfl (run_call en20 rfl rfl) (hsm2 hs) ?_
 rintro e w ⟨rfl,hq⟩
 refine⟨_,rfl,?_⟩
 replace hs:=hs.callE hq
 refine wy ?_;(first | refine WL.val rfl (run_notB rfl) ?_ | refine WL.val rfl (run_not rfl) ?_)
 refine pF<|wm<|wy<|wm<|wy<|wV (run_toString u76 u9 u5 rfl (hvb.slH (fun p hp=>hs.has p (by simp[hLbA p hp]))))<|wy<|wm<|wy<|wV (run_toString u76 u9 u5 rfl (hvk.slH (fun p hp=>hs.has p (by simp[hp]))))<|wy<|wV (run_bF (run_strNe rfl rfl) (by exact fun h=>h rfl))<|pF<|wZ ?_
 refine CW.cond rfl (fun h=>?_) (fun h=>?_)
 ·cases h
 refine ck<|sr<|WL.buildSlice (cs:=[]) u35 ty44 rfl (by decide) rfl (by simp[Filled,Instr.fill]) rfl hs (fun b199 w hs=>?_)
 refine wm<|WL.append u35 u35 ty44 rfl (by decide) rfl rfl ((OwnSl.mk (k:=0) (by simp))) (hs) ((hvl.slH fun p hp=>hs.has p (by simp[hLlA p hp]))) ((digsL_c1 _)) (by omega) rfl (fun v201 Lv201 w hv201 hs=>?_)
 refine wA<|wZ ?_
 have hvw:OwnSl 44 32 v201 l0.length (digsL l0) Lv201:=by
  have h:=hv201
  rw[Nat.zero_add,nil_append] at h
  exact h
 rw[←hA] at hs
 replace hs:=Step.perm hs perm_f1
 have ob:=hvl.some1 hl0p
 obtain⟨bl,cl,ml,hle1,hle2,hle3⟩:=ob
 have ob:=hvm.some1 hl0p
 obtain⟨bm,cm,mm,hme1,hme2,hme3⟩:=ob
 have ob:=hvn.some1 hl0p
 obtain⟨bn,cn,mn,hne1,hne2,hne3⟩:=ob
 rw[hle2,hme2,hne2] at hs
 have hcap:∀{q:Nat}{m:List Value},(digsL l0++m).length=q*32→l0.length≤q:=fun {q m} h=>by
  rw[length_append,digsL_len hl032] at h
  omega
 have hcl1:=hcap hle3
 have hcm1:=hcap hme3
 have hcn1:=hcap hne3
 have ob:∃Y0,(Lv201++(Lk++(Lb++A0)))++(L5++(R++D6))=Y0:=⟨_,rfl⟩
 obtain⟨Y0,hY0⟩:=ob
 rw[hY0] at hs
 refine CW.seqM (fun f w=>Step [] ((bl,blk 44 (digsL (filD 1 l0.length l0)++ml))::(bm,blk 44 (digsL (filD 2 l0.length l0)++mm))::(bn,blk 44 (digsL (filD 3 l0.length l0)++mn))::Y0) w0 w∧Holds f [(9,pt bw),(11,pt b11),(12,.slice (some ⟨bl,0,none⟩) l0.length cl),(14,vb),(19,.slice (some ⟨bm,0,none⟩) l0.length cm),(21,.slice (some ⟨bn,0,none⟩) l0.length cn),(23,vk),(25,v201)]) ?_ ?_
 ·refine sr<|wA<|wZ<|cB<|CW.loop (fun zz f w'=>∃(i:Nat),i≤l0.length∧zz=l0.length - i∧Step [] ((bl,blk 44 (digsL (filD 1 i l0)++ml))::(bm,blk 44 (digsL (filD 2 i l0)++mm))::(bn,blk 44 (digsL (filD 3 i l0)++mn))::Y0) w0 w'∧Holds f [(9,pt bw),(11,pt b11),(12,.slice (some ⟨bl,0,none⟩) l0.length cl),(14,vb),(19,.slice (some ⟨bm,0,none⟩) l0.length cm),(21,.slice (some ⟨bn,0,none⟩) l0.length cn),(23,vk),(25,v201),(26,.int .i64 (i:Nat))]) (m:=l0.length) ?_ ?_
  ·exact⟨0,Nat.zero_le _,rfl,by rw[filD_zero,filD_zero,filD_zero];exact hs,rfl,rfl,hle1,rfl,hme1,hne1,rfl,rfl,rfl,trivial⟩
  clear hs
  rintro zz f w ⟨i,hi,rfl,hs,hf⟩
  have ob:=hf.chain
  obtain⟨g,rfl⟩:=ob
  have hb1:=filD_blk (a:=1) (i:=i) hl032 hi hle3
  have hb2:=filD_blk (a:=2) (i:=i) hl032 hi hme3
  have hb3:=filD_blk (a:=3) (i:=i) hl032 hi hne3
  have hu1:=dgF_u 1 i
  have hu2:=dgF_u 2 i
  have hu3:=dgF_u 3 i
  by_cases hlt:i<l0.length
  ·refine cq<|sr<|wm<|wm<|wL u35 rfl<|lT<|wZ<|CW.cond rfl (fun h=>?_) (fun h=>?_)
   ·refine ck<|cq<|cB<|sr<|wm<|wm<|wm<|wV (run_convM u3 u5 rfl)<|wV (run_build rfl (bld_f1 _ _))<|wI u35 ty44 rfl rfl<|WL.storeN ty44 rfl rfl (hu1) (Cells1.u8s _) (hs) (by first | (simp;done) | omega | (simp only[length_append,length_replicate,length_cons,length_nil,length_set];omega) | (simp[Ent.cells,u8s];done) | exact Nat.le_of_ble_eq_true rfl) (fun w hs=>?_)
    refine wZ ?_
    replace hs:Step [] ((bl,blk 44 (digsL (filD 1 (i+1) l0)++ml))::_) w0 w:=hs.cast (filD_splice hl032 hlt)
    replace hs:=hs.swap
    refine sr<|wm<|wm<|wm<|wV (run_convM u3 u5 rfl)<|wV (run_build rfl (bld_f2 _ _))<|wI u35 ty44 rfl rfl<|WL.storeN ty44 rfl rfl (hu2) (Cells1.u8s _) (hs) (by first | (simp;done) | omega | (simp only[length_append,length_replicate,length_cons,length_nil,length_set];omega) | (simp[Ent.cells,u8s];done) | exact Nat.le_of_ble_eq_true rfl) (fun w hs=>?_)
    refine wZ ?_
    replace hs:Step [] ((bm,blk 44 (digsL (filD 2 (i+1) l0)++mm))::_) w0 w:=hs.cast (filD_splice hl032 hlt)
    replace hs:=Step.perm hs perm_f4
    refine cr<|wm<|wm<|wm<|wV (run_convM u3 u5 rfl)<|wV (run_build rfl (bld_f3 _ _))<|wI u35 ty44 rfl rfl<|WL.storeN ty44 rfl rfl (hu3) (Cells1.u8s _) (hs) (by first | (simp;done) | omega | (simp only[length_append,length_replicate,length_cons,length_nil,length_set];omega) | (simp[Ent.cells,u8s];done) | exact Nat.le_of_ble_eq_true rfl) (fun w hs=>?_)
    refine wZ ?_
    replace hs:Step [] ((bn,blk 44 (digsL (filD 3 (i+1) l0)++mn))::_) w0 w:=hs.cast (filD_splice hl032 hlt)
    replace hs:=Step.perm hs perm_f3
    refine cr<|wm<|wP ((i+1:Nat):Int)<|wA<|wZ<|(show _∧_ from⟨rfl,_,?_,i+1,hlt,rfl,hs,rfl,rfl,rfl,rfl,rfl,rfl,rfl,rfl,rfl,trivial⟩)
    omega
   ·cases h
  ·obtain rfl:i=l0.length:=by omega
   refine cq<|sr<|wm<|wm<|wL u35 rfl<|lF<|wZ<|CW.cond rfl (fun h=>?_) (fun h=>?_)
   ·cases h
   refine CW.exit ?_
   exact⟨rfl,hs,rfl,rfl,rfl,rfl,rfl,rfl,rfl,rfl,trivial⟩
 clear hs hsm1 hsm2
 rintro f w ⟨hs,hf⟩
 have ob:=hf.chain
 obtain⟨g,rfl⟩:=ob
 have hb1:=filD_blk (a:=1) (i:=l0.length) hl032 (Nat.le_refl _) hle3
 have hb2:=filD_blk (a:=2) (i:=l0.length) hl032 (Nat.le_refl _) hme3
 have hb3:=filD_blk (a:=3) (i:=l0.length) hl032 (Nat.le_refl _) hne3
 have ob:∃f1,filD 1 l0.length l0=f1:=⟨_,rfl⟩
 obtain⟨f1,hf1⟩:=ob
 have ob:∃f2,filD 2 l0.length l0=f2:=⟨_,rfl⟩
 obtain⟨f2,hf2⟩:=ob
 have ob:∃f3,filD 3 l0.length l0=f3:=⟨_,rfl⟩
 obtain⟨f3,hf3⟩:=ob
 have hl1:f1.length=l0.length:=by rw[←hf1];exact filD_len (Nat.le_refl _)
 have hl2:f2.length=l0.length:=by rw[←hf2];exact filD_len (Nat.le_refl _)
 have hl3:f3.length=l0.length:=by rw[←hf3];exact filD_len (Nat.le_refl _)
 have h321:∀q∈f1,q.length=32:=by rw[←hf1];exact filD_32 hl032
 have h322:∀q∈f2,q.length=32:=by rw[←hf2];exact filD_32 hl032
 have h323:∀q∈f3,q.length=32:=by rw[←hf3];exact filD_32 hl032
 have hg1:∀{i:Nat},i<l0.length→f1[i]?=some (dgF 1 i):=fun h=>by rw[←hf1];exact filD_get h
 have hg2:∀{i:Nat},i<l0.length→f2[i]?=some (dgF 2 i):=fun h=>by rw[←hf2];exact filD_get h
 have hg3:∀{i:Nat},i<l0.length→f3[i]?=some (dgF 3 i):=fun h=>by rw[←hf3];exact filD_get h
 rw[hf1] at hs hb1
 rw[hf2] at hs hb2
 rw[hf3] at hs hb3
 have hO1:OwnSl 44 32 (.slice (some ⟨bl,0,none⟩) l0.length cl) l0.length (digsL f1) [(bl,blk 44 (digsL f1++ml))]:=⟨by rw[digsL_len h321,hl1],.inr ⟨bl,cl,ml,rfl,rfl,hb1⟩⟩
 have hO2:OwnSl 44 32 (.slice (some ⟨bm,0,none⟩) l0.length cm) l0.length (digsL f2) [(bm,blk 44 (digsL f2++mm))]:=⟨by rw[digsL_len h322,hl2],.inr ⟨bm,cm,mm,rfl,rfl,hb2⟩⟩
 refine sr<|wm<|wV (run_build rfl (bld_g4 _))<|WL.buildSlice (cs:=u8s (dg1 4)) u35 ty44 rfl (by decide) rfl (filled1 (dg1_u 4) rfl) rfl hs (fun b228 w hs=>?_)
 have hsl228:Sl w 32 (.slice (some ⟨b228,0,none⟩) 1 1) 1 (u8s (dg1 4)):=.own1 hs (by rw[dg1_u])
 replace hs:=hs.swap
 refine WL.appendTw u35 u35 ty44 rfl (by decide) rfl rfl (Tw.start hO1) (hs) (hsl228) (by decide) (Cells1.u8s _) (by omega) rfl (fun u229 L229 w hu229 hs=>?_)
 refine wA<|wZ ?_
 replace hs:Step [] ((bm,blk 44 (digsL f2++mm))::(L229++((b228,blk 44 (u8s (dg1 4)))::(bn,blk 44 (digsL f3++mn))::Y0))) w0 w:=Step.perm hs perm_f5
 refine sr<|wm<|wV (run_build rfl (bld_g5 _))<|WL.buildSlice (cs:=u8s (dg1 5)) u35 ty44 rfl (by decide) rfl (filled1 (dg1_u 5) rfl) rfl hs (fun b232 w hs=>?_)
 have hsl232:Sl w 32 (.slice (some ⟨b232,0,none⟩) 1 1) 1 (u8s (dg1 5)):=.own1 hs (by rw[dg1_u])
 replace hs:=hs.swap
 refine WL.appendTw u35 u35 ty44 rfl (by decide) rfl rfl (Tw.start hO2) (hs) (hsl232) (by decide) (Cells1.u8s _) (by omega) rfl (fun u233 L233 w hu233 hs=>?_)
 refine wA<|wZ ?_
 have hat1:∀{w:World}{i:Nat},(∀p∈L229,w.heap[p.1]?=some p.2)→i<l0.length→At w bl (0+i*32) (u8s (dgF 1 i)):=fun h hi=>digsL_own (c:=cl) (by rw[hl1];exact hu229.left h) h321 (hg1 hi)
 have hat2:∀{w:World}{i:Nat},(∀p∈L233,w.heap[p.1]?=some p.2)→i<l0.length→At w bm (0+i*32) (u8s (dgF 2 i)):=fun h hi=>digsL_own (c:=cm) (by rw[hl2];exact hu233.left h) h322 (hg2 hi)
 have hat3:∀{w:World}{i:Nat},w.heap[bn]?=some (blk 44 (digsL f3++mn))→i<l0.length→At w bn (0+i*32) (u8s (dgF 3 i)):=fun h hi=>digsL_at h323 (At.of_blk h).left (hg3 hi)
 refine CW.seqM (fun f w=>Step [] (L233++((b232,blk 44 (u8s (dg1 5)))::(L229++((b228,blk 44 (u8s (dg1 4)))::(bn,blk 44 (digsL f3++mn))::Y0)))) w0 w∧Holds f [(9,pt bw),(11,pt b11),(12,.slice (some ⟨bl,0,none⟩) l0.length cl),(14,vb),(19,.slice (some ⟨bm,0,none⟩) l0.length cm),(23,vk),(25,v201),(27,u229),(28,u233)]) ?_ ?_
 ·refine sr<|wA<|wZ<|cB<|CW.loop (fun zz f w'=>∃(i:Nat),i≤l0.length∧zz=l0.length - i∧Step [] (L233++((b232,blk 44 (u8s (dg1 5)))::(L229++((b228,blk 44 (u8s (dg1 4)))::(bn,blk 44 (digsL f3++mn))::Y0)))) w0 w'∧Holds f [(9,pt bw),(11,pt b11),(12,.slice (some ⟨bl,0,none⟩) l0.length cl),(14,vb),(19,.slice (some ⟨bm,0,none⟩) l0.length cm),(21,.slice (some ⟨bn,0,none⟩) l0.length cn),(23,vk),(25,v201),(27,u229),(28,u233),(29,.int .i64 (i:Nat))]) (m:=l0.length) ?_ ?_
  ·exact⟨0,Nat.zero_le _,rfl,hs,rfl,rfl,rfl,rfl,rfl,rfl,rfl,rfl,rfl,rfl,rfl,trivial⟩
  clear hs
  rintro zz f w ⟨i,hi,rfl,hs,hf⟩
  have ob:=hf.chain
  obtain⟨g,rfl⟩:=ob
  by_cases hlt:i<l0.length
  ·have ha1:=hat1 (fun p hp=>hs.has p (by simp[hp])) hlt
   have ha2:=hat2 (fun p hp=>hs.has p (by simp[hp])) hlt
   have ha3:=hat3 (hs.has (bn,blk 44 (digsL f3++mn)) (by simp)) hlt
   refine cq<|sr<|wm<|wm<|wL u35 rfl<|lT<|wZ<|CW.cond rfl (fun h=>?_) (fun h=>?_)
   ·refine ck<|cq<|cB<|sr<|wm<|wm<|wI u35 ty44 rfl rfl<|wR ty44 rfl (dgF_u 1 i) ha1<|wm<|wV (run_convM u3 u5 rfl)<|wV (run_build rfl (bld_f1 _ _))<|wV (run_neqDig (dgF_32 1 i) rfl rfl)<|wm ?_
    refine wy<|wm<|wy<|wm ?_
    refine wy ?_;(first | refine WL.val rfl (run_ixSlN u35 ty44 rfl rfl (by omega)) ?_ | refine WL.val rfl (run_ixSl u35 ty44 rfl rfl (by omega)) ?_)
    refine wy<|wR ty44 rfl (dgF_u 2 i) ha2<|wy<|wm<|wy<|wV (run_convM u3 u5 rfl)<|wy<|wV (run_build rfl (bld_f2 _ _))<|wy<|wV (run_neqDig (dgF_32 2 i) rfl rfl)<|pF<|wm<|wy<|wm ?_
    refine wy<|wm ?_
    refine wy ?_;(first | refine WL.val rfl (run_ixSlN u35 ty44 rfl rfl (by omega)) ?_ | refine WL.val rfl (run_ixSl u35 ty44 rfl rfl (by omega)) ?_)
    refine wy<|wR ty44 rfl (dgF_u 3 i) ha3<|wy<|wm<|wy<|wV (run_convM u3 u5 rfl)<|wy<|wV (run_build rfl (bld_f3 _ _))<|wy<|wV (run_neqDig (dgF_32 3 i) rfl rfl)<|pF<|wZ<|CW.cond rfl (fun h=>?_) (fun h=>?_)
    ·cases h
    refine ck<|cr<|wm<|wP ((i+1:Nat):Int)<|wA<|wZ<|(show _∧_ from⟨rfl,_,?_,i+1,hlt,rfl,hs,rfl,rfl,rfl,rfl,rfl,rfl,rfl,rfl,rfl,rfl,rfl,trivial⟩)
    omega
   ·cases h
  ·obtain rfl:i=l0.length:=by omega
   refine cq<|sr<|wm<|wm<|wL u35 rfl<|lF<|wZ<|CW.cond rfl (fun h=>?_) (fun h=>?_)
   ·cases h
   refine CW.exit ?_
   exact⟨rfl,hs,rfl,rfl,rfl,rfl,rfl,rfl,rfl,rfl,rfl,trivial⟩
 clear hs
 rintro f w ⟨hs,hf⟩
 have ob:=(hu229.right (fun p hp=>hs.has p (by simp[hp]))).baseB (by omega)
 obtain⟨b27,o27,c27,hu27⟩:=ob
 have ob:=(hu233.right (fun p hp=>hs.has p (by simp[hp]))).baseB (by omega)
 obtain⟨b28,o28,c28,hu28⟩:=ob
 rw[hu27,hu28] at hf
 have ob:=hf.chain
 obtain⟨g,rfl⟩:=ob
 have hp27:∀{w:World},(∀p∈L229,w.heap[p.1]?=some p.2)→At w b27 (o27+l0.length*32) (u8s (dg1 4)):=fun {w} h=>by
  have h1:=hu229.right h
  rw[hu27] at h1
  have h2:=(h1.atB (by omega)).right
  rw[digsL_len h321,hl1,nil_append] at h2
  exact h2
 have hp28:∀{w:World},(∀p∈L233,w.heap[p.1]?=some p.2)→At w b28 (o28+l0.length*32) (u8s (dg1 5)):=fun {w} h=>by
  have h1:=hu233.right h
  rw[hu28] at h1
  have h2:=(h1.atB (by omega)).right
  rw[digsL_len h322,hl2,nil_append] at h2
  exact h2
 have hLbY:∀p∈Lb,p∈Y0:=fun p hp=>by rw[←hY0];simp[hp]
 refine sr<|WL.buildSlice (cs:=[]) u76 ty5 rfl (by decide) rfl (by simp[Filled,Instr.fill]) rfl hs (fun b268 w hs=>?_)
 refine wm<|WL.append u76 u76 ty5 rfl (by decide) rfl rfl ((OwnSl.mk (k:=0) (by simp))) (hs) ((hvb.slH fun p hp=>hs.has p (by simp[hLbY p hp]))) (Cells1.u8s _) (by omega) rfl (fun v270 Lv270 w hv270 hs=>?_)
 refine wA<|wZ ?_
 have hvy:OwnSl 5 1 v270 pk.1.length (u8s pk.1) Lv270:=by
  have h:=hv270
  rw[Nat.zero_add,nil_append] at h
  exact h
 have ob:∃E1,(Lv270++(L233++((b232,blk 44 (u8s (dg1 5)))::(L229++((b228,blk 44 (u8s (dg1 4)))::(bn,blk 44 (digsL f3++mn))::(Lv201++(Lk++(Lb++A0))))))))=E1:=⟨_,rfl⟩
 obtain⟨E1,hE1⟩:=ob
 replace hs:Step [] (E1++(L5++(R++D6))) w0 w:=by
  rw[←hE1]
  rw[←hY0] at hs
  have hs9:Step [] (Lv270++(L233++((b232,blk 44 (u8s (dg1 5)))::(L229++((b228,blk 44 (u8s (dg1 4)))::(bn,blk 44 (digsL f3++mn))::((Lv201++(Lk++(Lb++A0)))++(L5++(R++D6)))))))) w0 w:=hs
  simpa only[append_assoc,cons_append] using hs9
 have hbwE:(bw,blk 42 (w8C bp br vR))∈E1:=by rw[←hE1];simp[hbw0]
 have hb11E:(b11,blk 44 (u8s d))∈E1:=by rw[←hE1];simp[hb11]
 refine cq<|CW.any (A:=fun w=>w.heap[bw]?=some (blk 42 (w8C bp br vR))∧w.heap[b11]?=some (blk 44 (u8s d))) (C:=fun w=>w.heap[bw]?=some (blk 42 (w8C bp br vR))∧w.heap[b11]?=some (blk 44 (u8s d))) 1000000 12 mixedP rfl ?_
 replace hs:=hs.drew
 refine aM 0 rfl<|aN 1 rfl rfl<|aF 2 rfl 0 u42 rfl ty39 rfl<|aL 3 rfl ty39 rfl (fun w hs=>(At.of_blk hs.1).cell (j:=0) rfl)<|aV 4 rfl (fun w hs=>run_loadN ty44 rfl hzl (At.of_blk hs.2))<|AL.one 5 (by kernel_rfl) rfl (⟨hs.has (bw,blk 42 (w8C bp br vR)) (by simp[hbwE]),hs.has (b11,blk 44 (u8s d)) (by simp[hb11E])⟩) (⟨hs.has (bw,blk 42 (w8C bp br vR)) (by simp[hbwE]),hs.has (b11,blk 44 (u8s d)) (by simp[hb11E])⟩) ?_
 refine wE rfl (run_call en28 rfl rfl) (great_spec _) ?_
 rintro e w ⟨rfl,hq⟩
 refine⟨_,rfl,?_⟩
 replace hs:=hs.callE hq
 refine wZ<|⟨rfl,?_⟩
 refine AL.one 6 (by kernel_rfl) rfl (⟨hs.has (bw,blk 42 (w8C bp br vR)) (by simp[hbwE]),hs.has (b11,blk 44 (u8s d)) (by simp[hb11E])⟩) (⟨hs.has (bw,blk 42 (w8C bp br vR)) (by simp[hbwE]),hs.has (b11,blk 44 (u8s d)) (by simp[hb11E])⟩) ?_
 refine wE rfl (run_call en17 rfl rfl) (hreach (by omega) hP5 (Two.live (A:=E1) hs)) ?_
 rintro e w ⟨vo,Lo,L7,D7,rfl,hP7,hvo,hq7⟩
 refine⟨_,rfl,?_⟩
 replace hs:=Two.putA (A:=E1) hs hq7
 refine wZ<|⟨rfl,?_⟩
 refine aM 7 rfl<|aX 8 rfl rfl rfl<|aX 9 rfl rfl rfl<|aA 10 rfl<|aA 11 rfl<|AL.end (by kernel_rfl) (⟨hs.has (bw,blk 42 (w8C bp br vR)) (by simp[hbwE]),hs.has (b11,blk 44 (u8s d)) (by simp[hb11E])⟩) (⟨hs.has (bw,blk 42 (w8C bp br vR)) (by simp[hbwE]),hs.has (b11,blk 44 (u8s d)) (by simp[hb11E])⟩) ?_
 rw[←hE1] at hs
 replace hs:=Step.perm hs perm_f6
 have ob:∃E2,(Lo++(Lv270++(L233++((b232,blk 44 (u8s (dg1 5)))::(L229++((b228,blk 44 (u8s (dg1 4)))::(bn,blk 44 (digsL f3++mn))::(Lv201++A0)))))))=E2:=⟨_,rfl⟩
 obtain⟨E2,hE2⟩:=ob
 rw[hE2] at hs
 have hbw2:(bw,blk 42 (w8C bp br vR))∈E2:=by rw[←hE2];simp[hbw0]
 have hb112:(b11,blk 44 (u8s d))∈E2:=by rw[←hE2];simp[hb11]
 have h229E:∀p∈L229,p∈E2:=fun p hp=>by rw[←hE2];simp[hp]
 have h233E:∀p∈L233,p∈E2:=fun p hp=>by rw[←hE2];simp[hp]
 have h201E:∀p∈Lv201,p∈E2:=fun p hp=>by rw[←hE2];simp[hp]
 have h270E:∀p∈Lv270,p∈E2:=fun p hp=>by rw[←hE2];simp[hp]
 have hoE:∀p∈Lo,p∈E2:=fun p hp=>by rw[←hE2];simp[hp]
 have hsm3:∀{w1:World},(∀p∈E2,w1.heap[p.1]?=some p.2)→CP 20 #[vo,v201] w1 (Ret0 (.bool true) w1):=fun {w1} h=>by
  have h2:=sameD_spec (w0:=w1) (Dgs.own hvo (fun p hp=>h p (hoE p hp)) hl032 (by omega)) (Dgs.own hvw (fun p hp=>h p (h201E p hp)) hl032 (by omega))
  rw[decide_eq_true rfl] at h2;exact h2
 have hpkd:=fun{w1:World} h1 {h2}=>packed_spec (w0:=w1) (gf:=gf) (of:=of) (k:=kk) (v:=v270) (x:=pk.1) hP7 (okt.gotN _) (fewt.gotN _) (by omega) hd32 (by rw[runs_gotN,hrtG,partsM_gotN];exact hGt) h1 (by rw[runs_gotN,hrtG,packR_gotN,hpt]) h2
 refine cq<|CW.any (A:=fun w=>∀p∈E2,w.heap[p.1]?=some p.2) (C:=fun w=>∀p∈E2,w.heap[p.1]?=some p.2) 1000000 37 mixedP rfl ?_
 replace hs:=hs.drew
 refine aM 0 rfl<|aM 1 rfl<|aV 2 rfl (fun w hs=>run_lenSl u35 rfl)<|aV 3 rfl (fun w hs=>run_ixSlN u35 ty44 rfl rfl (by omega))<|aV 4 rfl (fun w hs=>run_loadN ty44 rfl (dg1_u 4) (hp27 fun p hp=>hs p (h229E p hp)))<|aV 5 rfl (fun w hs=>run_build rfl (bld_g4 _))<|aV 6 rfl (fun w hs=>run_bT (run_eqDig (dg1_32 4) (dg1_32 4) rfl rfl) rfl)<|aM 7 rfl<|AL.valY 8 rfl (by kernel_rfl) rfl rfl rfl rfl (fun w hs=>run_move) ?_
 refine AL.valY 9 rfl (by kernel_rfl) rfl rfl rfl rfl (fun w hs=>run_move) ?_
 refine AL.valY 10 rfl (by kernel_rfl) rfl rfl rfl rfl (fun w hs=>run_lenSl u35 rfl) ?_
 refine AL.valY 11 rfl (by kernel_rfl) rfl rfl rfl rfl (fun w hs=>run_ixSlN u35 ty44 rfl rfl (by omega)) ?_
 refine AL.valY 12 rfl (by kernel_rfl) rfl rfl rfl rfl (fun w hs=>run_loadN ty44 rfl (dg1_u 5) (hp28 fun p hp=>hs p (h233E p hp))) ?_
 refine AL.valY 13 rfl (by kernel_rfl) rfl rfl rfl rfl (fun w hs=>run_build rfl (bld_g5 _)) ?_
 refine AL.valY 14 rfl (by kernel_rfl) rfl rfl rfl rfl (fun w hs=>run_bT (run_eqDig (dg1_32 5) (dg1_32 5) rfl rfl) rfl) ?_
 refine aV 15 rfl (fun w hs=>run_pickT rfl)<|aM 16 rfl<|AL.valY 17 rfl (by kernel_rfl) rfl rfl rfl rfl (fun w hs=>run_move) ?_
 refine AL.valY 18 rfl (by kernel_rfl) rfl rfl rfl rfl (fun w hs=>run_move) ?_
 refine AL.one 19 (by kernel_rfl) rfl (fun p hp=>hs.has p (by simp[hp])) (fun p hp=>hs.has p (by simp[hp])) ?_
 refine wy<|wE rfl (run_call en20 rfl rfl) (hsm3 (fun p hp=>hs.has p (by simp[hp]))) ?_
 rintro e w ⟨rfl,hq3⟩
 refine⟨_,rfl,?_⟩
 replace hs:=hs.callE hq3
 refine wZ<|⟨rfl,?_⟩
 refine aV 20 rfl (fun w hs=>run_pickT rfl)<|aM 21 rfl<|AL.valY 22 rfl (by kernel_rfl) rfl rfl rfl rfl (fun w hs=>run_move) ?_
 refine AL.valY 23 rfl (by kernel_rfl) rfl rfl rfl rfl (fun w hs=>run_move) ?_
 refine AL.one 24 (by kernel_rfl) rfl (fun p hp=>hs.has p (by simp[hp])) (fun p hp=>hs.has p (by simp[hp])) ?_
 refine wy<|WL.buildSlice (cs:=[vb,vk]) (vs:=[(0,vb),(1,vk)]) u24 ty76 rfl (by decide) rfl (filledA2 hvb.one hvk.one) rfl hs (fun b305 w hs=>?_)
 refine wZ<|⟨rfl,?_⟩
 refine AL.one 25 (by kernel_rfl) rfl (fun p hp=>hs.has p (by simp[hp])) (fun p hp=>hs.has p (by simp[hp])) ?_
 refine wy<|wE rfl (run_call en37 rfl rfl) (grown2 hvb hvk (by omega) (by omega) hs) ?_
 rintro e w ⟨rfl,hq4⟩
 refine⟨_,rfl,?_⟩
 replace hs:=hq4
 refine wZ<|⟨rfl,?_⟩
 refine aV 26 rfl (fun w hs=>run_pickT rfl)<|aM 27 rfl<|AL.valY 28 rfl (by kernel_rfl) rfl rfl rfl rfl (fun w hs=>run_move) ?_
 refine AL.valY 29 rfl (by kernel_rfl) rfl rfl rfl rfl (fun w hs=>run_nilCheck rfl) ?_
 refine AL.valY 30 rfl (by kernel_rfl) rfl rfl rfl rfl (fun w hs=>run_field (o':=0) u42 rfl ty39 rfl rfl rfl) ?_
 refine AL.valY 31 rfl (by kernel_rfl) rfl rfl rfl rfl (fun w hs=>run_load1 ty39 rfl ((At.of_blk (hs _ hbw2)).cell (j:=0) rfl)) ?_
 refine AL.valY 32 rfl (by kernel_rfl) rfl rfl rfl rfl (fun w hs=>run_loadN ty44 rfl hzl (At.of_blk (hs _ hb112))) ?_
 refine AL.valY 33 rfl (by kernel_rfl) rfl rfl rfl rfl (fun w hs=>run_move) ?_
 refine AL.one 34 (by kernel_rfl) rfl (fun p hp=>hs.has p (by simp[hp])) (fun p hp=>hs.has p (by simp[hp])) ?_
 refine wy<|wE rfl (run_call en38 rfl rfl) (hpkd (Two.live (A:=_::E2) hs) (h2:=fun {w1 Y} h=>hvy.slH fun p hp=>Two.hold (A:=_::E2) hs h p (mem_cons_of_mem _ (h270E p hp)))) ?_
 rintro e w ⟨rfl,hq5⟩
 refine⟨_,rfl,?_⟩
 replace hs:=Two.set (A:=_::E2) hs hq5
 refine wZ<|⟨rfl,?_⟩
 refine aV 35 rfl (fun w hs=>run_pickT rfl)<|aA 36 rfl<|AL.end (by kernel_rfl) (fun p hp=>hs.has p (by simp[hp])) (fun p hp=>hs.has p (by simp[hp])) ?_
 refine CW.ret ?_
 refine fin_ret1 rfl ?_
 exact⟨rfl,hs.clear⟩
end
end Go.Gx
